/- The plain law of ClaimLine: what 'Claims' tells keeps every law, tells each moment's truth, and lets nothing wait for ever. -/
import Derived.Test.YtcoaeefmmnohkaaDoorLClaimLine
import Derived.Test.YtcoaeefmmnohkaaDoorQLines
namespace Go.Proofs.YtcoaeefmmnohkaaDoor.Q
open Go.RowKit Go.Proofs.YtcoaeefmmnohkaaDoorW.PrintWords Go.Proofs.YtcoaeefmmnohkaaDoorW.PrintMore Go.Proofs.YtcoaeefmmnohkaaDoor.P
set_option linter.unusedVariables false
theorem line_l0 {stem loop : List (List Bool)} {t : Tm} {m : Nat → Nat} {l places : List Int} {r : List Bool} (hx : ∀ x ∈ stem ++ loop, x.length = 3) (h1 : 1 ≤ loop.length) (hn : (stem ++ loop).length ≤ 100) (h : FormT 3 t) (hs : t.size ≤ 60) (ht : t.tempo ≤ 6) (hm : ∀ i, i < (stem ++ loop).length → m i < 2 ^ t.tempo)
    (hl : l.length = (stem ++ loop).length) (hp : places.length = t.tempo) (hv : ∀ i, i < (stem ++ loop).length → rd l (i : Int) = ((m i : Nat) : Int)) (hr : r.length = (stem ++ loop).length) (hq : ∀ i, i < (stem ++ loop).length → tval (xl (stem ++ loop) i) (Bm m i) 0 t = rdOf false r (i : Int)) (hF : Fits (stem ++ loop) stem.length (Bm m) 0 t) :
    ∀ (d i N : Nat), i + d = (stem ++ loop).length → Met stem loop t m i N →
    Ev (fun k => foretellkeep_ClaimLine.l0 k t.flat l r places ((stem ++ loop).length : Int) (N : Int) (stem ++ loop) (i : Int) stem loop) true := by
  have hbk : stem.length < (stem ++ loop).length := by rw [List.length_append]; omega
  intro d
  induction d with
  | zero =>
    intro i N hi hM
    have hil : i = (stem ++ loop).length := by omega
    subst hil
    refine Ev.step (f := fun _ => some true) (fun k => ?_) (Ev.now _)
    simp only [foretellkeep_ClaimLine.l0]
    rw [if_neg (by omega), hp, full_val ht]
    have e := hM.full.mpr hF.2
    congr 1
    exact beq_iff_eq.mpr (by omega)
  | succ d ih =>
    intro i N hi hM
    have hil : i < (stem ++ loop).length := by omega
    have hkl := nx_lt (i := i) hbk
    obtain ⟨M, hM1, hM2, hM3⟩ := meets_at hx h hs ht hm hil
    have hf := follows_at hx h hs ht hm hil hkl
    rw [hF.1 i hil] at hf
    have hxl : (xl (stem ++ loop) i).length = 3 := by
      unfold xl
      rw [List.getD_eq_getElem?_getD, List.getElem?_eq_getElem hil]
      exact hx _ (List.getElem_mem hil)
    have hmi := hm i hil
    have htr := truths_is (letter := xl (stem ++ loop) i) ((m i : Nat) : Int) (by omega) (by rw [hxl]; exact h) hs ht (by omega) (by omega)
    have hrt := (vl_whole (L := xl (stem ++ loop) i) (c := ((m i : Nat) : Int)) t).rt
    have hqi := hq i hil
    have hsz := t.flat_len
    have htl := t.tv_len (xl (stem ++ loop) i) ((m i : Nat) : Int) 0
    have e3 : rdOf false (t.tv (xl (stem ++ loop) i) ((m i : Nat) : Int) 0) 0 = rdOf false r (i : Int) := hrt.2.trans hqi
    have e2 : (0 : Int) < ((t.tv (xl (stem ++ loop) i) ((m i : Nat) : Int) 0).length : Int) := by have := hrt.1; omega
    generalize t.tv (xl (stem ++ loop) i) ((m i : Nat) : Int) 0 = tv at *
    have e1 : (tv.length : Int) = (t.flat.length : Int) := by omega
    generalize hkk : nx (stem ++ loop).length stem.length i = kk at *
    have HW1 := Aside0.mk (show wrap64 ((i : Int) + 1) = ((i + 1 : Nat) : Int) from w64 (n := (i : Int) + 1) (by omega) (by omega))
    have g1 : (0 : Int) ≤ (i : Int) := by omega
    have g2 : (i : Int) < ((stem ++ loop).length : Int) := by omega
    have g3 : (i : Int) < (l.length : Int) := by omega
    have g4 : (i : Int) < (r.length : Int) := by omega
    have g5 : (0 : Int) ≤ (kk : Int) := by omega
    have g6 : (kk : Int) < ((stem ++ loop).length : Int) := by omega
    have g7 : (kk : Int) < (l.length : Int) := by omega
    have hj4 : Ev (fun k => foretellkeep_ClaimLine.j4 k t.flat l r places ((stem ++ loop).length : Int) (N : Int) (stem ++ loop) (i : Int) (M : Int) false stem loop) true := by
      have h64 := pow_le6 ht
      by_cases c : stem.length ≤ i
      · refine Ev.step (fun k => ?_) (ih (i + 1) (N ||| M) (by omega) (hM.go c hM1 hM2))
        simp only [foretellkeep_ClaimLine.j4]
        rw [if_neg (by simp), if_pos (by omega), HW1.out, or_nat N M (by have := hM.1; omega) (by omega)]
      · refine Ev.step (fun k => ?_) (ih (i + 1) N (by omega) (hM.stay (by omega)))
        simp only [foretellkeep_ClaimLine.j4]
        rw [if_neg (by simp), if_neg (by omega), HW1.out]
    have hj3 : Ev (fun k => foretellkeep_ClaimLine.j3 k t.flat l r places ((stem ++ loop).length : Int) (N : Int) (stem ++ loop) (i : Int) true 0 stem loop) true := by
      refine Ev.step (f := fun k => (logic_Truths.f k t.flat (xl (stem ++ loop) i) ((m i : Nat) : Int)).bind fun bt588 => (logic_Meets.f k t.flat (xl (stem ++ loop) i) ((m i : Nat) : Int)).bind fun bt594 => if bt588.2 = 0 then (if bt594.2 = 0 then (if (bt588.1.length : Int) = (t.flat.length : Int) then (if 0 < (bt588.1.length : Int) then (foretellkeep_ClaimLine.j4 k t.flat l r places ((stem ++ loop).length : Int) (N : Int) (stem ++ loop) (i : Int) bt594.1 ((rdOf false bt588.1 0) != (rdOf false r (i : Int))) stem loop) else none) else none) else none) else none) (fun k => ?_) (Ev.bind htr (Ev.bind hM3 ?_))
      · simp only [foretellkeep_ClaimLine.j3, if_pos g1, if_pos g2, if_pos g3, if_pos g4, rdL_xl, hv i hil, eq_self, if_true]
      · simp only [if_true, eq_self, if_pos e1, if_pos e2, e3, bne_self_eq_false]
        exact hj4
    have hj2 : Ev (fun k => foretellkeep_ClaimLine.j2 k t.flat l r places ((stem ++ loop).length : Int) (N : Int) (stem ++ loop) (i : Int) (kk : Int) stem loop) true := by
      refine Ev.step (f := fun k => (logic_Follows.f k t.flat (xl (stem ++ loop) i) ((m i : Nat) : Int) (xl (stem ++ loop) kk) ((m kk : Nat) : Int)).bind fun bt584 => foretellkeep_ClaimLine.j3 k t.flat l r places ((stem ++ loop).length : Int) (N : Int) (stem ++ loop) (i : Int) bt584.1 bt584.2 stem loop) (fun k => ?_) (Ev.bind hf hj3)
      simp only [foretellkeep_ClaimLine.j2, if_pos g1, if_pos g2, if_pos g3, if_pos g5, if_pos g6, if_pos g7, rdL_xl, hv i hil, hv kk hkl]
    refine Ev.step (fun k => ?_) hj2
    simp only [foretellkeep_ClaimLine.l0, HW1.out]
    rw [if_pos (by omega)]
    unfold nx at hkk
    by_cases c : i + 1 < (stem ++ loop).length
    · rw [if_pos c] at hkk
      rw [if_neg (by omega), ← hkk]
    · rw [if_neg c] at hkk
      rw [if_pos (by omega), ← hkk]
theorem ClaimLine : P.foretellkeep_ClaimLine.Pur := by
  intro x s0 s1 ⟨_, hx⟩ ⟨⟨_, hs0⟩, ⟨_, hs1⟩⟩
  obtain ⟨stem, loop, z1, z2, z3, z4, ew⟩ := word_is hs0 hs1
  have hw := ok_of (by omega) z2 (by omega) z4
  obtain ⟨f, hf, sf, tf, ef⟩ := form_is (raw := x) hx 4 (by decide) (by decide)
  have hT : f.tempo ≤ 6 := by omega
  obtain ⟨l, cn, ec, hl, hcl, hcs⟩ := claims_is (by decide) (by decide) hw hf (by omega) hT
  obtain ⟨r, hr, em⟩ := moments_is (by decide) (by decide) hw hf (by omega) hT
  have hpl : (aheadL 0 f.flat).length = f.tempo := by rw [aheadL_len]; exact hf.cnt
  have hn : (stem ++ loop).length ≤ 10 := by rw [List.length_append]; omega
  have hbk : stem.length < (stem ++ loop).length := by rw [List.length_append]; omega
  have HSUM := Aside0.mk (show wrap64 ((stem.length : Int) + (loop.length : Int)) = ((stem ++ loop).length : Int) from by rw [w64 (n := (stem.length : Int) + (loop.length : Int)) (by omega) (by omega), List.length_append]; omega)
  have hrd : ∀ i, i < (stem ++ loop).length → rd l (i : Int) = (cn i : Int) := fun i hi => by
    unfold rd
    rw [Int.toNat_natCast]
    exact (hcl i hi).1
  have hm : ∀ i, i < (stem ++ loop).length → cn i < 2 ^ f.tempo := fun i hi => (hcl i hi).2
  have hF : Fits (stem ++ loop) stem.length (Bm cn) 0 f := (fits_iff z2 hf hT hm hcs hm).mpr (fun _ _ => rfl)
  have hLT := line_true (B := Bm cn) hbk hf 0
  have hq : ∀ i, i < (stem ++ loop).length → tval (xl (stem ++ loop) i) (Bm cn i) 0 f = rdOf false r (i : Int) := by
    intro i hi
    rw [rdOf_gd]
    exact Bool.eq_iff_iff.mpr ((hLT.2 (hLT.1.mp hF) i hi).trans (hr.2 i hi).symm)
  have hg := line_l0 (l := l) (r := r) (places := aheadL 0 f.flat) z4 z2 (by omega) hf (by omega) hT hm hl hpl hrd hr.1 hq hF (stem ++ loop).length 0 0 (Nat.zero_add _) Met.zero
  refine Ev.rounds ?_
  unfold foretellkeep_ClaimLine.f
  refine Ev.bind ew ?_
  refine Ev.bind ef ?_
  refine Ev.bind ec ?_
  refine Ev.bind em ?_
  refine Ev.bind (ahead_is (by decide) (by decide) hf (by omega) hT) ?_
  simp only [if_true, HSUM.out, hl, hr.1, bne_self_eq_false]
  refine Ev.step (fun k => ?_) hg
  simp only [foretellkeep_ClaimLine.j0, Option.bind_some, List.nil_append]
  rw [if_neg (by simp), if_pos (by rw [List.length_nil]; omega), if_pos (by omega)]
  rfl
end Go.Proofs.YtcoaeefmmnohkaaDoor.Q
