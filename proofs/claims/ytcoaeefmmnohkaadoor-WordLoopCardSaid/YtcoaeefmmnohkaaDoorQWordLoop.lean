/- The plain law of WordLoop: Finally holds just if it holds in the loop, or ahead; Globally just if nothing else is there. -/
import Derived.Test.YtcoaeefmmnohkaaDoorLWordLoop
import Derived.Test.YtcoaeefmmnohkaaDoorQSpell
namespace Go.Proofs.YtcoaeefmmnohkaaDoor.Q
open Go.RowKit Go.Proofs.YtcoaeefmmnohkaaDoorW.PrintWords Go.Proofs.YtcoaeefmmnohkaaDoorW.PrintMore Go.Proofs.YtcoaeefmmnohkaaDoor.P
set_option linter.unusedVariables false
/-- What lies ahead of a moment: the moments from it on, or the whole loop. -/
theorem itn_go {n back : Nat} : ∀ (j i : Nat), i + j < n → itn n back j i = i + j
  | 0, i, _ => rfl
  | j + 1, i, h => by
    rw [itn, show nx n back i = i + 1 by unfold nx; rw [if_pos (by omega)], itn_go j (i + 1) (by omega)]
    omega
theorem itn_from {n back : Nat} (hb : back < n) : ∀ (j i : Nat), i < n → min i back ≤ itn n back j i ∧ itn n back j i < n
  | 0, i, h => ⟨Nat.min_le_left _ _, h⟩
  | j + 1, i, h => by
    have := itn_from hb j (nx n back i) (nx_lt hb)
    refine ⟨?_, this.2⟩
    rw [itn]
    have h1 := this.1
    unfold nx at h1 ⊢
    split <;> rename_i c
    · rw [if_pos c] at h1; omega
    · rw [if_neg c] at h1; omega
theorem itn_reach {n back : Nat} (hb : back < n) {i m : Nat} (hi : i < n) (h0 : min i back ≤ m) (h1 : m < n) : ∃ j, itn n back j i = m := by
  by_cases c : i ≤ m
  · exact ⟨m - i, by rw [itn_go _ _ (by omega)]; omega⟩
  · have hm : back ≤ m := by omega
    refine ⟨(n - 1 - i) + (1 + (m - back)), ?_⟩
    rw [itn_add, itn_go (n - 1 - i) i (by omega), itn_add]
    have e : itn n back 1 (i + (n - 1 - i)) = back := by
      rw [itn, itn]
      unfold nx
      rw [if_neg (by omega)]
    rw [e, itn_go _ _ (by omega)]
    omega
theorem loop_l1 (a o l : List Bool) (st : List (List Bool)) (lp : List (List Bool)) (n i : Nat) (ha : a.length = n) (ho : o.length = n) (hl : l.length = n) (hn : n ≤ 1000) (hi : i < n) (ho1 : ∀ m, min i st.length ≤ m → m < n → gd a m = true → gd o i = true) (ho2 : gd o i = true → ∃ m, min i st.length ≤ m ∧ m < n ∧ gd a m = true)
    (hl1 : ∀ m, min i st.length ≤ m → m < n → gd a m = false → gd l i = false) (hl2 : gd l i = false → ∃ m, min i st.length ≤ m ∧ m < n ∧ gd a m = false) (res : Bool) (hnext : Ev (fun k => foretellkeep_WordLoop.l0 k a o l ((i + 1 : Nat) : Int) st lp) res) :
    ∀ (d m : Nat) (s t : Bool), m + d = n → min i st.length ≤ m → (s = true → ∃ q, min i st.length ≤ q ∧ q < n ∧ gd a q = true) → (∀ q, min i st.length ≤ q → q < m → gd a q = true → s = true) → (t = false → ∃ q, min i st.length ≤ q ∧ q < n ∧ gd a q = false) → (∀ q, min i st.length ≤ q → q < m → gd a q = false → t = false) →
    Ev (fun k => foretellkeep_WordLoop.l1 k a o l (i : Int) s t (m : Int) st lp) res := by
  intro d
  induction d with
  | zero =>
    intro m s t hm h0 h1 h2 h3 h4
    refine Ev.step (fun k => ?_) hnext
    have e1 : gd o i = s := by
      cases hs : s with
      | true => obtain ⟨q, q1, q2, q3⟩ := h1 hs; exact ho1 q q1 q2 q3
      | false =>
        cases hq : gd o i with
        | false => rfl
        | true =>
          obtain ⟨q, q1, q2, q3⟩ := ho2 hq
          rw [h2 q q1 (by omega) q3] at hs
          exact absurd hs (by simp)
    have e2 : gd l i = t := by
      cases hs : t with
      | false => obtain ⟨q, q1, q2, q3⟩ := h3 hs; exact hl1 q q1 q2 q3
      | true =>
        cases hq : gd l i with
        | true => rfl
        | false =>
          obtain ⟨q, q1, q2, q3⟩ := hl2 hq
          rw [h4 q q1 (by omega) q3] at hs
          exact absurd hs (by simp)
    simp only [foretellkeep_WordLoop.l1]
    rw [if_neg (by omega), if_pos (by omega), if_pos (by omega), rdOf_gd, rdOf_gd, e1, e2, if_neg (by simp), if_pos (by omega), if_neg (by simp), w64 (n := (i : Int) + 1) (by omega) (by omega)]
    rfl
  | succ d ih =>
    intro m s t hm h0 h1 h2 h3 h4
    have hs : (s || gd a m) = true → ∃ q, min i st.length ≤ q ∧ q < n ∧ gd a q = true := by
      intro h
      cases hq : gd a m with
      | true => exact ⟨m, h0, by omega, hq⟩
      | false => rw [hq, Bool.or_false] at h; exact h1 h
    have hs2 : ∀ q, min i st.length ≤ q → q < m + 1 → gd a q = true → (s || gd a m) = true := by
      intro q q1 q2 q3
      by_cases c : q = m
      · subst c; rw [q3, Bool.or_true]
      · rw [h2 q q1 (by omega) q3]; rfl
    have ht : (t && gd a m) = false → ∃ q, min i st.length ≤ q ∧ q < n ∧ gd a q = false := by
      intro h
      cases hq : gd a m with
      | false => exact ⟨m, h0, by omega, hq⟩
      | true => rw [hq, Bool.and_true] at h; exact h3 h
    have ht2 : ∀ q, min i st.length ≤ q → q < m + 1 → gd a q = false → (t && gd a m) = false := by
      intro q q1 q2 q3
      by_cases c : q = m
      · subst c; rw [q3, Bool.and_false]
      · rw [h4 q q1 (by omega) q3]; rfl
    refine Ev.step (fun k => ?_) (ih (m + 1) (s || gd a m) (t && gd a m) (by omega) (by omega) hs hs2 ht ht2)
    simp only [foretellkeep_WordLoop.l1]
    rw [if_pos (by omega), if_pos (show (0 : Int) ≤ (m : Int) by omega), rdOf_gd, w64 (n := (m : Int) + 1) (by omega) (by omega)]
    cases s <;> cases t <;> cases gd a m <;> rfl
theorem WordLoop : P.foretellkeep_WordLoop.Pur := by
  intro x s0 s1 ⟨_, hx⟩ ⟨⟨_, hs0⟩, ⟨_, hs1⟩⟩
  obtain ⟨stem, loop, z1, z2, z3, z4, ew⟩ := word_is hs0 hs1
  have hw := ok_of (by omega) z2 (by omega) z4
  obtain ⟨f, hf, sf, tf, ef⟩ := form_is (raw := x) hx 2 (by decide) (by decide)
  have n2 : ∀ t : Tm, (Tm.un ⟨17, 0⟩ t).tempo = 1 + t.tempo := fun t => by rw [Tm.tempo]; simp
  have n3 : ∀ t : Tm, (Tm.un ⟨18, 0⟩ t).tempo = 1 + t.tempo := fun t => by rw [Tm.tempo]; simp
  have m1 : ∀ (o : Op) (t : Tm), (Tm.un o t).size = t.size + 1 := fun _ _ => rfl
  obtain ⟨a, ia, ea⟩ := moments_is (by decide) (by decide) hw hf (by omega) (by omega)
  obtain ⟨o, io, eo⟩ := moments_is (by decide) (by decide) hw (.look 17 _ (.inr (.inl rfl)) hf : FormT 3 _) (by rw [m1]; omega) (by rw [n2]; omega)
  obtain ⟨l, il, el⟩ := moments_is (by decide) (by decide) hw (.look 18 _ (.inr (.inr rfl)) hf : FormT 3 _) (by rw [m1]; omega) (by rw [n3]; omega)
  have hbk : stem.length < (stem ++ loop).length := by rw [List.length_append]; omega
  have hn : (stem ++ loop).length ≤ 10 := by rw [List.length_append]; omega
  have hsum : wrap64 ((stem.length : Int) + (loop.length : Int)) = ((stem ++ loop).length : Int) := by rw [w64 (n := (stem.length : Int) + (loop.length : Int)) (by omega) (by omega), List.length_append]; omega
  have hsays : ∀ i m, i < (stem ++ loop).length → min i stem.length ≤ m → m < (stem ++ loop).length → ∃ j, (uw (stem ++ loop) stem.length i).from_ j = uw (stem ++ loop) stem.length m := by
    intro i m hi h0 h1
    obtain ⟨j, hj⟩ := itn_reach hbk hi h0 h1
    exact ⟨j, by rw [uw_from, hj]⟩
  have io2 : ∀ i, i < (stem ++ loop).length → (gd o i = true ↔ ∃ j, f.says ((uw (stem ++ loop) stem.length i).from_ j)) := fun i hi => io.2 i hi
  have il2 : ∀ i, i < (stem ++ loop).length → (gd l i = true ↔ ∀ j, f.says ((uw (stem ++ loop) stem.length i).from_ j)) := fun i hi => il.2 i hi
  have hl0 : ∀ (d i : Nat), i + d = (stem ++ loop).length → Ev (fun k => foretellkeep_WordLoop.l0 k a o l (i : Int) stem loop) true := by
    intro d
    induction d with
    | zero =>
      intro i hi
      refine Ev.step (f := fun _ => some true) (fun k => ?_) (Ev.now _)
      simp only [foretellkeep_WordLoop.l0]
      rw [if_neg (by rw [ia.1]; omega)]
    | succ d ih =>
      intro i hi
      have hil : i < (stem ++ loop).length := by omega
      refine Ev.step (fun k => ?_) (loop_l1 a o l stem loop _ i ia.1 io.1 il.1 (by omega) hil ?_ ?_ ?_ ?_ true (ih (i + 1) (by omega)) ((stem ++ loop).length - min i stem.length) (min i stem.length) false true (by omega) (Nat.le_refl _) (fun h => absurd h (by simp)) (fun q h1 h2 => by omega) (fun h => absurd h (by simp)) (fun q h1 h2 => by omega))
      · simp only [foretellkeep_WordLoop.l0]
        rw [if_pos (by rw [ia.1]; omega), mn_eq, show min (i : Int) (stem.length : Int) = ((min i stem.length : Nat) : Int) by omega]
      · intro m h0 h1 h2
        obtain ⟨j, hj⟩ := hsays i m hil h0 h1
        exact (io2 i hil).mpr ⟨j, by rw [hj]; exact (ia.2 m h1).mp h2⟩
      · intro h
        obtain ⟨j, hj⟩ := (io2 i hil).mp h
        have := itn_from hbk j i hil
        rw [uw_from] at hj
        exact ⟨_, this.1, this.2, (ia.2 _ this.2).mpr hj⟩
      · intro m h0 h1 h2
        obtain ⟨j, hj⟩ := hsays i m hil h0 h1
        cases hq : gd l i with
        | false => rfl
        | true =>
          have := (il2 i hil).mp hq j
          rw [hj] at this
          rw [(ia.2 m h1).mpr this] at h2
          exact absurd h2 (by simp)
      · intro h
        refine Classical.byContradiction fun hq => ?_
        have : gd l i = true := (il2 i hil).mpr (fun j => by
          have ht := itn_from hbk j i hil
          rw [uw_from]
          refine (ia.2 _ ht.2).mp ?_
          cases hg : gd a (itn (stem ++ loop).length stem.length j i) with
          | true => rfl
          | false => exact absurd ⟨_, ht.1, ht.2, hg⟩ hq)
        rw [this] at h
        exact absurd h (by simp)
  refine Ev.rounds ?_
  unfold foretellkeep_WordLoop.f
  refine Ev.bind ew ?_
  refine Ev.bind ef ?_
  refine Ev.bind ea ?_
  refine Ev.bind (joined1 17 f (by omega)) ?_
  refine Ev.bind eo ?_
  refine Ev.bind (joined1 18 f (by omega)) ?_
  refine Ev.bind el ?_
  simp only [if_true, ia.1, io.1, il.1, hsum]
  refine Ev.step (fun k => ?_) (hl0 _ 0 (Nat.zero_add _))
  rw [foretellkeep_WordLoop.j0, if_neg (by simp)]
  rfl
end Go.Proofs.YtcoaeefmmnohkaaDoor.Q
