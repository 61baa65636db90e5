/- The plain law of SumOne: a changed byte changes the sum. -/
import Derived.Test.YtaologjglealoaaLSumOne
import Derived.Test.YtaologjglealoaaQ
namespace Go.Proofs.Ytaologjglealoaa.Q
open Go.RowKit Go.Proofs.YtaologjglealoaaW.PrintWords Go.Proofs.YtaologjglealoaaW.PrintMore Go.Proofs.Ytaologjglealoaa.P
set_option linter.unusedVariables false

/-- The sum's step. -/
def st (s c : Int) : Int := (s * 257 + c) % 2147483629
theorem st_lo (s c : Int) : 0 ≤ st s c := Int.emod_nonneg _ (by decide)
theorem st_hi (s c : Int) : st s c < 2147483629 := Int.emod_lt_of_pos _ (by decide)
/-- The sum of bytes, from a beginning on. -/
def sm (s : Int) (l : List Int) : Int := l.foldl st s
theorem sm_in {s : Int} (l : List Int) (h0 : 0 ≤ s) (h1 : s < 2147483629) : 0 ≤ sm s l ∧ sm s l < 2147483629 := by
  induction l generalizing s with
  | nil => exact ⟨h0, h1⟩
  | cons c l ih => exact ih (st_lo s c) (st_hi s c)
theorem st_inj {a b c : Int} (ha : 0 ≤ a) (ha1 : a < 2147483629) (hb : 0 ≤ b) (hb1 : b < 2147483629) (h : st a c = st b c) : a = b := by
  unfold st at h
  omega
theorem sm_inj {a b : Int} (l : List Int) (ha : 0 ≤ a) (ha1 : a < 2147483629) (hb : 0 ≤ b) (hb1 : b < 2147483629) (h : sm a l = sm b l) : a = b := by
  induction l generalizing a b with
  | nil => exact h
  | cons c l ih => exact st_inj ha ha1 hb hb1 (ih (st_lo a c) (st_hi a c) (st_lo b c) (st_hi b c) h)
theorem st_new {a c c' : Int} (hc : 0 ≤ c) (hc1 : c ≤ 255) (hd : 0 ≤ c') (hd1 : c' ≤ 255) (h : st a c = st a c') : c = c' := by
  unfold st at h
  omega
def bytes (l : List Int) : Prop := ∀ x ∈ l, 0 ≤ x ∧ x ≤ 255
theorem sum_l (d : Nat) : ∀ (k : Nat) (s : Int) (l : List Int) (i : Nat), bytes l → 0 ≤ s → s < 2147483629 → i + d = l.length → l.length ≤ 9223372036854775806 → d < k →
    tape_Sum.l0 k s l (l.length : Int) (i : Int) = some (sm s (l.drop i)) := by
  induction d with
  | zero =>
    intro k s l i hb h0 h1 hd hl hk
    obtain ⟨k, rfl⟩ : ∃ m, k = m + 1 := ⟨k - 1, by omega⟩
    simp only [tape_Sum.l0]
    rw [if_neg (by omega), List.drop_of_length_le (by omega)]
    rfl
  | succ d ih =>
    intro k s l i hb h0 h1 hd hl hk
    obtain ⟨k, rfl⟩ : ∃ m, k = m + 1 := ⟨k - 1, by omega⟩
    have hi : i < l.length := by omega
    simp only [tape_Sum.l0]
    rw [if_pos (by omega), if_pos (by omega), if_pos (by omega), rd_eq hi]
    obtain ⟨b0, b1⟩ := hb l[i] (List.getElem_mem hi)
    rw [w64 (n := s * 257) (by omega) (by omega), w64 (n := l[i]) (by omega) (by omega), w64 (n := s * 257 + l[i]) (by omega) (by omega), w64 (n := (i : Int) + 1) (by omega) (by omega)]
    rw [Int.tmod_eq_emod_of_nonneg (by omega)]
    have := ih k (st s l[i]) l (i + 1) hb (st_lo _ _) (st_hi _ _) (by omega) hl (by omega)
    rw [show ((i : Int) + 1) = ((i + 1 : Nat) : Int) by omega]
    rw [show (s * 257 + l[i]) % 2147483629 = st s l[i] from rfl, this, List.drop_eq_getElem_cons hi]
    rfl
theorem sum_is {k : Nat} {l : List Int} (hb : bytes l) (hl : l.length ≤ 9223372036854775806) (hk : l.length < k) : tape_Sum.f k l = some (sm 1 l) := by
  unfold tape_Sum.f
  have := sum_l l.length k 1 l 0 hb (by decide) (by decide) (by omega) hl hk
  simpa using this
theorem sum_set {l : List Int} {i : Nat} {c : Int} (hb : bytes l) (hi : i < l.length) (hc : 0 ≤ c) (hc1 : c ≤ 255) (hne : c ≠ l[i]) : sm 1 (l.set i c) ≠ sm 1 l := by
  intro h
  have hs : ∀ (s : Int) (l : List Int) (i : Nat) (hi : i < l.length), bytes l → 0 ≤ s → s < 2147483629 → sm s (l.set i c) = sm s l → c = l[i] := by
    intro s l
    induction l generalizing s with
    | nil => intro i hi; simp at hi
    | cons x l ih =>
      intro i hi hb h0 h1 h
      cases i with
      | zero =>
        have h2 : sm (st s c) l = sm (st s x) l := h
        have h3 := sm_inj l (st_lo _ _) (st_hi _ _) (st_lo _ _) (st_hi _ _) h2
        obtain ⟨b0, b1⟩ := hb x List.mem_cons_self
        exact st_new hc hc1 b0 b1 h3
      | succ i =>
        have h2 : sm (st s x) (l.set i c) = sm (st s x) l := h
        exact ih (st s x) i (by simpa using hi) (fun y hy => hb y (List.mem_cons_of_mem _ hy)) (st_lo _ _) (st_hi _ _) h2
  exact hne (hs 1 l i hi hb (by decide) (by decide) h)
theorem xor_ne {x m : Int} (hx : 0 ≤ x) (hx1 : x ≤ 255) (hm : 1 ≤ m) (hm1 : m ≤ 255) : 0 ≤ Go.bits .xor .u8 x m ∧ Go.bits .xor .u8 x m ≤ 255 ∧ Go.bits .xor .u8 x m ≠ x := by
  obtain ⟨a, rfl⟩ := Int.eq_ofNat_of_zero_le hx
  obtain ⟨b, rfl⟩ := Int.eq_ofNat_of_zero_le (show 0 ≤ m by omega)
  have ha : a < 256 := by omega
  have hb : b < 256 := by omega
  have hlt : a ^^^ b < 2 ^ 8 := Nat.xor_lt_two_pow (n := 8) ha hb
  have he : Go.bits .xor .u8 (a : Int) (b : Int) = ((a ^^^ b : Nat) : Int) := by
    have hp : (2 : Nat) ^ IntKind.u8.bits = 256 := rfl
    simp only [Go.bits, BitVec.ofInt_natCast, BitVec.toNat_xor, BitVec.toNat_ofNat, hp]
    rw [Nat.mod_eq_of_lt ha, Nat.mod_eq_of_lt hb, IntKind.wrap_u8]
    omega
  rw [he]
  refine ⟨by omega, by omega, fun h => ?_⟩
  have h2 : a ^^^ b = a := by omega
  have h3 : a ^^^ (a ^^^ b) = a ^^^ a := by rw [h2]
  rw [← Nat.xor_assoc, Nat.xor_self, Nat.zero_xor] at h3
  omega
theorem SumOne : P.foretellkeep_SumOne.Pur := by
  intro l a1 a2 hl h1 h2
  obtain ⟨hlen, hw⟩ := hl
  have hml : maxLen = 9223372036854775807 := rfl
  have hb : bytes (l.take 300) := fun x hx => bounds_u8 (hw x (List.mem_of_mem_take hx))
  have hlt : (l.take 300).length ≤ 300 := List.length_take_le _ _
  refine ⟨400, ?_⟩
  unfold foretellkeep_SumOne.f
  have hsome : foretellkeep_some.f l 300 = some (l.take 300) := by
    unfold foretellkeep_some.f
    have hm : (mn (l.length : Int) 300).toNat = min l.length 300 := by rw [mn_eq]; omega
    have hm0 : 0 ≤ mn (l.length : Int) 300 := by rw [mn_eq]; omega
    have hm1 : mn (l.length : Int) 300 ≤ (l.length : Int) := by rw [mn_eq]; omega
    have ht : l.take (min l.length 300) = l.take 300 := by
      rcases Nat.le_total l.length 300 with h | h
      · rw [Nat.min_eq_left h, List.take_of_length_le (Nat.le_refl _), List.take_of_length_le h]
      · rw [Nat.min_eq_right h]
    rw [if_pos hm0, if_pos hm1, hm, ht, if_pos (by simp only [List.length_nil]; omega), List.nil_append]
  rw [hsome, Option.bind_some]
  generalize l.take 300 = t at hb hlt
  rw [sum_is hb (by omega) (by omega), Option.bind_some]
  by_cases h0 : (t.length : Int) = 0
  · rw [if_pos h0]
    have : t = [] := List.eq_nil_of_length_eq_zero (by omega)
    subst this
    rfl
  · rw [if_neg h0, picked_is h1 (by omega), Option.bind_some, if_pos (pk_lo _ (by omega)), if_pos (pk_hi _ (by omega)), picked_is h2 (by omega), Option.bind_some]
    obtain ⟨i, hi⟩ := Int.eq_ofNat_of_zero_le (pk_lo a1 (m := (t.length : Int)) (by omega))
    have hi1 := pk_hi a1 (m := (t.length : Int)) (by omega)
    rw [hi] at hi1 ⊢
    have hit : i < t.length := by omega
    have m0 := pk_lo a2 (m := 255) (by omega)
    have m1 := pk_hi a2 (m := 255) (by omega)
    rw [rd_eq hit, Int.toNat_natCast]
    obtain ⟨b0, b1⟩ := hb t[i] (List.getElem_mem hit)
    obtain ⟨x0, x1, x2⟩ := xor_ne (m := (wrap64 (1 + pk a2 255)) % 256) b0 b1 (by rw [w64 (by omega) (by omega)]; omega) (by rw [w64 (by omega) (by omega)]; omega)
    generalize Go.bits .xor .u8 t[i] ((wrap64 (1 + pk a2 255)) % 256) = c at x0 x1 x2
    have hb' : bytes (t.set i c) := fun x hx => by
      rcases List.mem_or_eq_of_mem_set hx with h | h
      · exact hb x h
      · subst h; exact ⟨x0, x1⟩
    rw [sum_is hb' (by simp; omega) (by simp; omega), Option.bind_some]
    have hne := sum_set hb hit x0 x1 x2
    obtain ⟨s0, s1⟩ := sm_in t (s := 1) (by decide) (by decide)
    rw [if_neg (fun h => hne h.symm), if_pos s0]
    simp [s1]
end Go.Proofs.Ytaologjglealoaa.Q
