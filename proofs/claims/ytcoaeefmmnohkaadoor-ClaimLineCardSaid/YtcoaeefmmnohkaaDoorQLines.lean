/- A line of claims, moment by moment: what 'Follows' and 'Meets' tell of it, and when it is the true one. -/
import Derived.Test.YtcoaeefmmnohkaaDoorQCore
namespace Go.Proofs.YtcoaeefmmnohkaaDoor.Q
open Go.RowKit Go.Proofs.YtcoaeefmmnohkaaDoorW.PrintWords Go.Proofs.YtcoaeefmmnohkaaDoorW.PrintMore Go.Proofs.YtcoaeefmmnohkaaDoor.P
set_option linter.unusedVariables false
def Bm (m : Nat → Nat) (i : Nat) : Nat → Bool := bit ((m i : Nat) : Int)
theorem nat_eq {a b T : Nat} (ha : a < 2 ^ T) (hb : b < 2 ^ T) (h : ∀ j, j < T → a.testBit j = b.testBit j) : a = b := by
  apply Nat.eq_of_testBit_eq
  intro j
  rcases Nat.lt_or_ge j T with c | c
  · exact h j c
  · have hp : 2 ^ T ≤ 2 ^ j := Nat.pow_le_pow_right (by decide) c
    rw [Nat.testBit_lt_two_pow (Nat.lt_of_lt_of_le ha hp), Nat.testBit_lt_two_pow (Nat.lt_of_lt_of_le hb hp)]
section
variable {props : Int} {stem loop : List (List Bool)} {t : Tm} {cn m : Nat → Nat}
theorem fits_iff (h1 : 1 ≤ loop.length) (h : FormT props t) (ht : t.tempo ≤ 6) (hc : ∀ i, i < (stem ++ loop).length → cn i < 2 ^ t.tempo) (hcs : ∀ (i j : Nat) (s : Tm), i < (stem ++ loop).length → t.asub[j]? = some s → ((cn i).testBit j = true ↔ s.says (uw (stem ++ loop) stem.length i))) (hm : ∀ i, i < (stem ++ loop).length → m i < 2 ^ t.tempo) :
    Fits (stem ++ loop) stem.length (Bm m) 0 t ↔ ∀ i, i < (stem ++ loop).length → m i = cn i := by
  have hbk : stem.length < (stem ++ loop).length := by rw [List.length_append]; omega
  have hal := asub_len h
  have h64 := pow_le6 ht
  rw [(line_true (B := Bm m) hbk h 0).1]
  constructor
  · intro q i hi
    refine nat_eq (hm i hi) (hc i hi) (fun j hj => ?_)
    have hj2 : j < t.asub.length := by omega
    have e1 := q j _ (List.getElem?_eq_getElem hj2) i hi
    have e2 := hcs i j _ hi (List.getElem?_eq_getElem hj2)
    rw [Nat.zero_add] at e1
    have e3 : Bm m i j = (m i).testBit j := bit_nat _ _ (by have := hm i hi; omega) (by omega)
    rw [e3] at e1
    exact Bool.eq_iff_iff.mpr (e1.trans e2.symm)
  · intro q k s hk i hi
    have hk2 : k < t.asub.length := (List.getElem?_eq_some_iff.1 hk).1
    have e3 : Bm m i k = (m i).testBit k := bit_nat _ _ (by have := hm i hi; omega) (by omega)
    rw [Nat.zero_add, e3, q i hi]
    exact hcs i k s hi hk
theorem follows_at (hx : ∀ x ∈ stem ++ loop, x.length = 3) (h : FormT 3 t) (hs : t.size ≤ 60) (ht : t.tempo ≤ 6) (hm : ∀ i, i < (stem ++ loop).length → m i < 2 ^ t.tempo) {i i' : Nat} (hi : i < (stem ++ loop).length) (hi' : i' < (stem ++ loop).length) :
    Ev (fun k => logic_Follows.f k t.flat (xl (stem ++ loop) i) ((m i : Nat) : Int) (xl (stem ++ loop) i') ((m i' : Nat) : Int)) (keepT (xl (stem ++ loop) i) (xl (stem ++ loop) i') (Bm m i) (Bm m i') 0 t, 0) := by
  have hxl : ∀ i, i < (stem ++ loop).length → (xl (stem ++ loop) i).length = 3 := by
    intro i hi
    unfold xl
    rw [List.getD_eq_getElem?_getD, List.getElem?_eq_getElem hi]
    exact hx _ (List.getElem_mem hi)
  have a := hxl i hi
  have b := hxl i' hi'
  have := hm i hi
  have := hm i' hi'
  exact follows_is (by omega) (by omega) (by rw [a]; exact h) hs ht (by omega) (by omega) (by omega) (by omega)
theorem meets_at (hx : ∀ x ∈ stem ++ loop, x.length = 3) (h : FormT 3 t) (hs : t.size ≤ 60) (ht : t.tempo ≤ 6) (hm : ∀ i, i < (stem ++ loop).length → m i < 2 ^ t.tempo) {i : Nat} (hi : i < (stem ++ loop).length) :
    ∃ M : Nat, M < 2 ^ t.tempo ∧ (∀ k, k < t.tempo → M.testBit k = (mfl (xl (stem ++ loop) i) (Bm m i) 0 t).getD k false) ∧ Ev (fun k => logic_Meets.f k t.flat (xl (stem ++ loop) i) ((m i : Nat) : Int)) ((M : Int), 0) := by
  have a : (xl (stem ++ loop) i).length = 3 := by
    unfold xl
    rw [List.getD_eq_getElem?_getD, List.getElem?_eq_getElem hi]
    exact hx _ (List.getElem_mem hi)
  have hl := mfl_len h (xl (stem ++ loop) i) (Bm m i) 0
  obtain ⟨o1, _, o3⟩ := accN_ok (mfl (xl (stem ++ loop) i) (Bm m i) 0 t) 0 0 (by decide) (by omega)
  rw [Nat.zero_add, hl] at o1
  have := hm i hi
  refine ⟨_, o1, fun k hk => ?_, meets_is (by omega) (by rw [a]; exact h) hs ht (by omega) (by omega)⟩
  have := o3 k (by omega)
  rw [Nat.zero_add] at this
  exact this
/-- What has been met till a moment. -/
def Met (stem loop : List (List Bool)) (t : Tm) (m : Nat → Nat) (i N : Nat) : Prop := N < 2 ^ t.tempo ∧ ∀ k, k < t.tempo → (N.testBit k = true ↔ ∃ i', stem.length ≤ i' ∧ i' < i ∧ (mfl (xl (stem ++ loop) i') (Bm m i') 0 t).getD k false = true)
theorem Met.zero : Met stem loop t m 0 0 := ⟨Nat.two_pow_pos _, fun k _ => ⟨fun h => by simp at h, fun ⟨i, _, h, _⟩ => by omega⟩⟩
theorem Met.stay {i N : Nat} (h : Met stem loop t m i N) (hi : i < stem.length) : Met stem loop t m (i + 1) N :=
  ⟨h.1, fun k hk => (h.2 k hk).trans ⟨fun ⟨i', a, b, c⟩ => ⟨i', a, by omega, c⟩, fun ⟨i', a, b, c⟩ => by omega⟩⟩
theorem Met.go {i N M : Nat} (h : Met stem loop t m i N) (hi : stem.length ≤ i) (hM : M < 2 ^ t.tempo) (hk : ∀ k, k < t.tempo → M.testBit k = (mfl (xl (stem ++ loop) i) (Bm m i) 0 t).getD k false) : Met stem loop t m (i + 1) (N ||| M) := by
  refine ⟨Nat.or_lt_two_pow h.1 hM, fun k hk' => ?_⟩
  rw [Nat.testBit_or, Bool.or_eq_true, h.2 k hk', hk k hk']
  constructor
  · rintro (⟨i', a, b, c⟩ | c)
    · exact ⟨i', a, by omega, c⟩
    · exact ⟨i, hi, by omega, c⟩
  · rintro ⟨i', a, b, c⟩
    by_cases e : i' = i
    · subst e; exact .inr c
    · exact .inl ⟨i', a, by omega, c⟩
theorem Met.full {N : Nat} (h : Met stem loop t m (stem ++ loop).length N) : N = 2 ^ t.tempo - 1 ↔ ∀ k, k < t.tempo → ∃ i, stem.length ≤ i ∧ i < (stem ++ loop).length ∧ (mfl (xl (stem ++ loop) i) (Bm m i) 0 t).getD k false = true := by
  constructor
  · rintro rfl k hk
    refine (h.2 k hk).mp ?_
    rw [Nat.testBit_two_pow_sub_one]
    exact decide_eq_true hk
  · intro q
    refine nat_eq (T := t.tempo) h.1 (by have := Nat.two_pow_pos t.tempo; omega) (fun j hj => ?_)
    rw [(h.2 j hj).mpr (q j hj), Nat.testBit_two_pow_sub_one, decide_eq_true hj]
end
theorem full_val {T : Nat} (h : T ≤ 6) : wrap64 (shl .i64 1 (T : Int) - 1) = ((2 ^ T - 1 : Nat) : Int) := by
  rw [shl_pow T h]
  have h1 := Nat.two_pow_pos T
  have h2 := pow_le6 h
  rw [w64 (n := ((2 ^ T : Nat) : Int) - 1) (by omega) (by omega)]
  omega
theorem rdL_xl (xs : List (List Bool)) (i : Nat) : rd_L7 xs (i : Int) = xl xs i := by
  unfold rd_L7 xl
  rw [Int.toNat_natCast]
end Go.Proofs.YtcoaeefmmnohkaaDoor.Q
