/- Claims as bits: what 'Claims', 'Follows' and 'Meets' make of a formula. -/
import Derived.Test.YtcoaeefmmnohkaaDoorQTruths
import Derived.Test.YtcoaeefmmnohkaaDoorQSpell
import Derived.Test.YtcoaeefmmnohkaaDoorFWordClaims
import Derived.Test.YtcoaeefmmnohkaaDoorFLogicFollows
import Derived.Test.YtcoaeefmmnohkaaDoorFLogicMeets
namespace Go.Proofs.YtcoaeefmmnohkaaDoor.Q
open Go.RowKit Go.Proofs.YtcoaeefmmnohkaaDoorW.PrintWords Go.Proofs.YtcoaeefmmnohkaaDoorW.PrintMore Go.Proofs.YtcoaeefmmnohkaaDoor.P
set_option linter.unusedVariables false
set_option maxRecDepth 100000 in
theorem or_nat (a b : Nat) (ha : a < 64) (hb : b < 64) : Go.bits .or .i64 (a : Int) (b : Int) = ((a ||| b : Nat) : Int) := by
  have h : ∀ x : Fin 64, ∀ y : Fin 64, Go.bits .or .i64 ((x.val : Nat) : Int) ((y.val : Nat) : Int) = ((x.val ||| y.val : Nat) : Int) := by decide +kernel
  exact h ⟨a, ha⟩ ⟨b, hb⟩
set_option maxRecDepth 100000 in
theorem xor_nat (a b : Nat) (ha : a < 64) (hb : b < 64) : Go.bits .xor .i64 (a : Int) (b : Int) = ((a ^^^ b : Nat) : Int) := by
  have h : ∀ x : Fin 64, ∀ y : Fin 64, Go.bits .xor .i64 ((x.val : Nat) : Int) ((y.val : Nat) : Int) = ((x.val ^^^ y.val : Nat) : Int) := by decide +kernel
  exact h ⟨a, ha⟩ ⟨b, hb⟩
set_option maxRecDepth 100000 in
theorem bit_nat (a j : Nat) (ha : a < 64) (hj : j < 6) : bit (a : Int) j = a.testBit j := by
  have h : ∀ x : Fin 64, ∀ y : Fin 6, bit ((x.val : Nat) : Int) y.val = x.val.testBit y.val := by decide +kernel
  exact h ⟨a, ha⟩ ⟨j, hj⟩
theorem pow_le6 {j : Nat} (h : j ≤ 6) : 2 ^ j ≤ 64 := Nat.pow_le_pow_right (by decide) h
theorem pow_lt6 {j : Nat} (h : j < 6) : 2 ^ j < 64 := Nat.lt_of_lt_of_le (Nat.pow_lt_pow_right (by decide) h) (pow_le6 (Nat.le_refl 6))
/-! ### the ops that look ahead -/
def Tm.asub : Tm → List Tm
  | .leaf _ => []
  | .un o a => if o.f0 = 10 then a.asub else (.un o a) :: a.asub
  | .bin o a b => if o.f0 = 8 ∨ o.f0 = 9 then a.asub ++ b.asub else (.bin o a b) :: (a.asub ++ b.asub)
section
variable {props : Int}
theorem asub_not (a : Tm) : (Tm.un ⟨10, 0⟩ a).asub = a.asub := if_pos rfl
theorem asub_look {o : Int} (a : Tm) (h : o ≠ 10) : (Tm.un ⟨o, 0⟩ a).asub = (Tm.un ⟨o, 0⟩ a) :: a.asub := if_neg h
theorem asub_log {o : Int} (a b : Tm) (h : o = 8 ∨ o = 9) : (Tm.bin ⟨o, 0⟩ a b).asub = a.asub ++ b.asub := if_pos h
theorem asub_unto {o : Int} (a b : Tm) (h : ¬ (o = 8 ∨ o = 9)) : (Tm.bin ⟨o, 0⟩ a b).asub = (Tm.bin ⟨o, 0⟩ a b) :: (a.asub ++ b.asub) := if_neg h
theorem tempo_not (a : Tm) : (Tm.un ⟨10, 0⟩ a).tempo = a.tempo := by rw [Tm.tempo]; simp
theorem tempo_look {o : Int} (a : Tm) (h : o ≠ 10) : (Tm.un ⟨o, 0⟩ a).tempo = a.tempo + 1 := by rw [Tm.tempo]; simp only; rw [if_neg h]; omega
theorem tempo_log {o : Int} (a b : Tm) (h : o = 8 ∨ o = 9) : (Tm.bin ⟨o, 0⟩ a b).tempo = a.tempo + b.tempo := by rw [Tm.tempo]; simp only; rw [if_pos h]; omega
theorem tempo_unto {o : Int} (a b : Tm) (h : ¬ (o = 8 ∨ o = 9)) : (Tm.bin ⟨o, 0⟩ a b).tempo = a.tempo + b.tempo + 1 := by rw [Tm.tempo]; simp only; rw [if_neg h]; omega
theorem asub_len {t : Tm} (h : FormT props t) : t.asub.length = t.tempo := by
  induction h with
  | prop v => rfl
  | yes o h => rfl
  | not a _ ih => rw [asub_not, tempo_not]; exact ih
  | look o a h _ ih => rw [asub_look a (by omega), tempo_look a (by omega), List.length_cons, ih]
  | log o a b h _ _ iha ihb => rw [asub_log a b h, tempo_log a b h, List.length_append, iha, ihb]
  | unto o a b h _ _ iha ihb => rw [asub_unto a b (by omega), tempo_unto a b (by omega), List.length_cons, List.length_append, iha, ihb]
theorem aheadL_app : ∀ (l m : List Op) (p : Int), aheadL p (l ++ m) = aheadL p l ++ aheadL (p + l.length) m
  | [], m, p => by simp [aheadL]
  | o :: l, m, p => by
    rw [List.cons_append, aheadL, aheadL, aheadL_app l m (p + 1), show p + 1 + (l.length : Int) = p + ((o :: l).length : Int) by rw [List.length_cons]; omega]
    split <;> rfl
theorem rows_ahead {xs : List (List Bool)} {back : Nat} {t : Tm} (h : FormT props t) : ∀ (rs : List (List Bool)), RowsOf xs back t rs → ∀ p : Nat, ∃ qs : List Nat, aheadL (p : Int) t.flat = qs.map (fun q => ((p + q : Nat) : Int)) ∧ qs.length = t.tempo ∧ ∀ (j q : Nat) (s : Tm), qs[j]? = some q → t.asub[j]? = some s → ∃ r, rs[q]? = some r ∧ RowOf xs back s r := by
  have hone : ∀ (o : Int) (a : Tm) (p : Nat) (rs : List (List Bool)) (r : List Bool) (qs : List Nat), aheadL ((p + 1 : Nat) : Int) a.flat = qs.map (fun q => ((p + 1 + q : Nat) : Int)) → (∀ (j q : Nat) (s : Tm), qs[j]? = some q → a.asub[j]? = some s → ∃ r, rs[q]? = some r ∧ RowOf xs back s r) →
      aheadL ((p + 1 : Nat) : Int) a.flat = (qs.map (· + 1)).map (fun q => ((p + q : Nat) : Int)) ∧ ∀ (j q : Nat) (s : Tm), (qs.map (· + 1))[j]? = some q → a.asub[j]? = some s → ∃ x, (r :: rs)[q]? = some x ∧ RowOf xs back s x := by
    intro o a p rs r qs h1 h2
    refine ⟨?_, fun j q s hq hs => ?_⟩
    · rw [h1, List.map_map]
      apply List.map_congr_left
      intro q _
      show ((p + 1 + q : Nat) : Int) = ((p + (q + 1) : Nat) : Int)
      congr 1
      omega
    · rw [List.getElem?_map] at hq
      obtain ⟨q', hq', rfl⟩ := Option.map_eq_some_iff.1 hq
      rw [List.getElem?_cons_succ]
      exact h2 j q' s hq' hs
  have htwo : ∀ (a b : Tm) (p : Nat) (ra rb : List (List Bool)), ra.length = a.size → (∃ qs : List Nat, aheadL (p : Int) a.flat = qs.map (fun q => ((p + q : Nat) : Int)) ∧ qs.length = a.tempo ∧ ∀ (j q : Nat) (s : Tm), qs[j]? = some q → a.asub[j]? = some s → ∃ r, ra[q]? = some r ∧ RowOf xs back s r) →
      (∃ qs : List Nat, aheadL ((p + a.size : Nat) : Int) b.flat = qs.map (fun q => ((p + a.size + q : Nat) : Int)) ∧ qs.length = b.tempo ∧ ∀ (j q : Nat) (s : Tm), qs[j]? = some q → b.asub[j]? = some s → ∃ r, rb[q]? = some r ∧ RowOf xs back s r) → a.asub.length = a.tempo →
      ∃ qs : List Nat, aheadL (p : Int) (a.flat ++ b.flat) = qs.map (fun q => ((p + q : Nat) : Int)) ∧ qs.length = a.tempo + b.tempo ∧ ∀ (j q : Nat) (s : Tm), qs[j]? = some q → (a.asub ++ b.asub)[j]? = some s → ∃ r, (ra ++ rb)[q]? = some r ∧ RowOf xs back s r := by
    intro a b p ra rb hl ⟨qa, a1, a2, a3⟩ ⟨qb, b1, b2, b3⟩ ha
    refine ⟨qa ++ qb.map (a.size + ·), ?_, by rw [List.length_append, List.length_map, a2, b2], fun j q s hq hs => ?_⟩
    · rw [aheadL_app, a1, a.flat_len, show (p : Int) + (a.size : Int) = ((p + a.size : Nat) : Int) by omega, b1, List.map_append, List.map_map]
      congr 1
      apply List.map_congr_left
      intro q _
      show ((p + a.size + q : Nat) : Int) = ((p + (a.size + q) : Nat) : Int)
      congr 1
      omega
    · rcases Nat.lt_or_ge j qa.length with hj | hj
      · rw [List.getElem?_append_left hj] at hq
        rw [List.getElem?_append_left (by omega)] at hs
        obtain ⟨r, h1, h2⟩ := a3 j q s hq hs
        exact ⟨r, by rw [List.getElem?_append_left (List.getElem?_eq_some_iff.1 h1).1]; exact h1, h2⟩
      · rw [List.getElem?_append_right hj] at hq
        rw [List.getElem?_append_right (by omega), ha, ← a2] at hs
        rw [List.getElem?_map] at hq
        obtain ⟨q', hq', rfl⟩ := Option.map_eq_some_iff.1 hq
        obtain ⟨r, h1, h2⟩ := b3 _ q' s hq' hs
        exact ⟨r, by rw [List.getElem?_append_right (by omega), hl, Nat.add_sub_cancel_left]; exact h1, h2⟩
  induction h with
  | prop v => intro rs _ p; exact ⟨[], by simp [Tm.flat, aheadL, ah], rfl, fun j q s h => by simp at h⟩
  | yes o h => intro rs _ p; exact ⟨[], by rcases h with rfl | rfl <;> simp [Tm.flat, aheadL, ah], rfl, fun j q s h => by simp at h⟩
  | not a ha ih =>
    intro rs hrs p
    obtain ⟨r, ra, rfl, _, h2⟩ := hrs
    obtain ⟨qs, q1, q2, q3⟩ := ih ra h2 (p + 1)
    obtain ⟨c1, c2⟩ := hone 10 a p ra r qs q1 q3
    refine ⟨qs.map (· + 1), ?_, by rw [List.length_map, q2, tempo_not], by rw [asub_not]; exact c2⟩
    rw [Tm.flat, aheadL, if_neg (by simp [ah]), show (p : Int) + 1 = ((p + 1 : Nat) : Int) by omega]
    exact c1
  | look o a h ha ih =>
    intro rs hrs p
    obtain ⟨r, ra, rfl, h1, h2⟩ := hrs
    obtain ⟨qs, q1, q2, q3⟩ := ih ra h2 (p + 1)
    obtain ⟨c1, c2⟩ := hone o a p ra r qs q1 q3
    refine ⟨0 :: qs.map (· + 1), ?_, by rw [List.length_cons, List.length_map, q2, tempo_look a (by omega)], fun j q s hq hs => ?_⟩
    · rw [Tm.flat, aheadL, if_pos (by simp [ah]; omega), show (p : Int) + 1 = ((p + 1 : Nat) : Int) by omega, c1, List.map_cons, Nat.add_zero]
    · rw [asub_look a (by omega)] at hs
      cases j with
      | zero =>
        obtain rfl := Option.some.inj hq
        obtain rfl := Option.some.inj hs
        exact ⟨r, rfl, h1⟩
      | succ j =>
        rw [List.getElem?_cons_succ] at hq hs
        exact c2 j q s hq hs
  | log o a b h ha hb iha ihb =>
    intro rs hrs p
    obtain ⟨r, ra, rb, rfl, _, h2, h3⟩ := hrs
    obtain ⟨qs, q1, q2, q3⟩ := htwo a b (p + 1) ra rb h2.len (iha ra h2 (p + 1)) (ihb rb h3 (p + 1 + a.size)) (asub_len ha)
    refine ⟨qs.map (· + 1), ?_, by rw [List.length_map, q2, tempo_log a b h], fun j q s hq hs => ?_⟩
    · rw [Tm.flat, aheadL, if_neg (by simp [ah]; omega), show (p : Int) + 1 = ((p + 1 : Nat) : Int) by omega, q1, List.map_map]
      apply List.map_congr_left
      intro q _
      show ((p + 1 + q : Nat) : Int) = ((p + (q + 1) : Nat) : Int)
      congr 1
      omega
    · rw [asub_log a b h] at hs
      rw [List.getElem?_map] at hq
      obtain ⟨q', hq', rfl⟩ := Option.map_eq_some_iff.1 hq
      rw [List.getElem?_cons_succ]
      exact q3 j q' s hq' hs
  | unto o a b h ha hb iha ihb =>
    intro rs hrs p
    obtain ⟨r, ra, rb, rfl, h1, h2, h3⟩ := hrs
    obtain ⟨qs, q1, q2, q3⟩ := htwo a b (p + 1) ra rb h2.len (iha ra h2 (p + 1)) (ihb rb h3 (p + 1 + a.size)) (asub_len ha)
    refine ⟨0 :: qs.map (· + 1), ?_, by rw [List.length_cons, List.length_map, q2, tempo_unto a b (by omega)], fun j q s hq hs => ?_⟩
    · rw [Tm.flat, aheadL, if_pos (by simp [ah]; omega), show (p : Int) + 1 = ((p + 1 : Nat) : Int) by omega, q1, List.map_cons, Nat.add_zero, List.map_map]
      congr 1
      apply List.map_congr_left
      intro q _
      show ((p + 1 + q : Nat) : Int) = ((p + (q + 1) : Nat) : Int)
      congr 1
      omega
    · rw [asub_unto a b (by omega)] at hs
      cases j with
      | zero =>
        obtain rfl := Option.some.inj hq
        obtain rfl := Option.some.inj hs
        exact ⟨r, rfl, h1⟩
      | succ j =>
        rw [List.getElem?_cons_succ] at hq hs
        rw [List.getElem?_map] at hq
        obtain ⟨q', hq', rfl⟩ := Option.map_eq_some_iff.1 hq
        rw [List.getElem?_cons_succ]
        exact q3 j q' s hq' hs
end
/-! ### the claims of a word -/
theorem or_bit {N j : Nat} (hN : N < 2 ^ j) (hj : j < 6) (f : Bool) : (if f = true then N ||| 2 ^ j else N) < 2 ^ (j + 1) ∧ (∀ m, m < j → (if f = true then N ||| 2 ^ j else N).testBit m = N.testBit m) ∧ (if f = true then N ||| 2 ^ j else N).testBit j = f := by
  have h1 : N.testBit j = false := Nat.testBit_lt_two_pow hN
  have h2 : 2 ^ j < 2 ^ (j + 1) := Nat.pow_lt_pow_right (by decide) (by omega)
  cases f with
  | false => exact ⟨by simp; omega, fun m hm => by simp, by simp [h1]⟩
  | true =>
    refine ⟨?_, fun m hm => ?_, ?_⟩
    · rw [if_pos rfl]; exact Nat.or_lt_two_pow (by omega) h2
    · rw [if_pos rfl, Nat.testBit_or, Nat.testBit_two_pow, decide_eq_false (by omega), Bool.or_false]
    · rw [if_pos rfl, Nat.testBit_or, Nat.testBit_two_pow, decide_eq_true rfl, Bool.or_true]
theorem claim_val {n bt : Nat} {out : List Int} {r : List Bool} (ho : out.length = n) (hr : r.length = n) {cn : Nat → Nat} (hc : ∀ i, i < n → out.getD i 0 = (cn i : Int) ∧ cn i < 2 ^ bt) (hb : bt < 6) :
    (claim_row bt out r).length = n ∧ ∀ i, i < n → (claim_row bt out r).getD i 0 = ((if gd r i = true then cn i ||| 2 ^ bt else cn i : Nat) : Int) := by
  refine ⟨by rw [claim_len]; omega, fun i hi => ?_⟩
  have h0 : i < out.length := by omega
  have h1 : i < r.length := by omega
  have hl : i < (claim_row bt out r).length := by rw [claim_len]; omega
  obtain ⟨c1, c2⟩ := hc i hi
  rw [List.getD_eq_getElem?_getD, List.getElem?_eq_getElem h0] at c1
  have c1' : out[i] = (cn i : Int) := c1
  have hg : gd r i = r[i] := by unfold gd; rw [List.getD_eq_getElem?_getD, List.getElem?_eq_getElem h1]; rfl
  have hle := pow_le6 (j := bt) (by omega)
  rw [List.getD_eq_getElem?_getD]
  unfold claim_row
  rw [List.getElem?_zipWith, List.getElem?_eq_getElem h0, List.getElem?_eq_getElem h1]
  show (if r[i] = true then Go.bits .or .i64 out[i] (shl .i64 1 (bt : Int)) else out[i]) = _
  rw [c1', hg, shl_pow bt (by omega)]
  cases r[i] with
  | false => rfl
  | true => exact or_nat _ _ (by omega) (pow_lt6 hb)
theorem bits_fold {rows : List (List Bool)} {n : Nat} : ∀ (qs : List Nat) (bt : Nat) (cn : Nat → Nat) (out : List Int), out.length = n → (∀ i, i < n → out.getD i 0 = (cn i : Int) ∧ cn i < 2 ^ bt) → bt + qs.length ≤ 6 → (∀ q ∈ qs, ∃ r, rows[q]? = some r ∧ r.length = n) →
    ∃ (out' : List Int) (cn' : Nat → Nat), word_bits rows (qs.map (fun (q : Nat) => (q : Int))) bt out = some out' ∧ out'.length = n ∧ (∀ i, i < n → out'.getD i 0 = (cn' i : Int) ∧ cn' i < 2 ^ (bt + qs.length)) ∧ (∀ i, i < n → ∀ j, j < bt → (cn' i).testBit j = (cn i).testBit j) ∧ (∀ i, i < n → ∀ (j q : Nat) (r : List Bool), qs[j]? = some q → rows[q]? = some r → (cn' i).testBit (bt + j) = gd r i)
  | [], bt, cn, out, ho, hc, hb, hq => ⟨out, cn, rfl, ho, fun i hi => hc i hi, fun i hi j hj => rfl, fun i hi j q r h => by simp at h⟩
  | q :: qs, bt, cn, out, ho, hc, hb, hq => by
    rw [List.length_cons] at hb
    obtain ⟨r, hr, hrl⟩ := hq q (List.mem_cons_self ..)
    obtain ⟨v1, v2⟩ := claim_val ho hrl hc (by omega)
    have ob := fun i hi => or_bit (hc i hi).2 (show bt < 6 by omega) (gd r i)
    obtain ⟨out', cn', e1, e2, e3, e4, e5⟩ := bits_fold qs (bt + 1) (fun i => if gd r i = true then cn i ||| 2 ^ bt else cn i) (claim_row bt out r) v1 (fun i hi => ⟨v2 i hi, (ob i hi).1⟩) (by omega) (fun q' h => hq q' (List.mem_cons_of_mem _ h))
    refine ⟨out', cn', ?_, e2, fun i hi => ?_, fun i hi j hj => ?_, fun i hi j q' r' h1 h2 => ?_⟩
    · rw [List.map_cons, word_bits, if_pos ⟨by omega, by omega⟩, Int.toNat_natCast, hr, Option.bind_some]
      exact e1
    · rw [List.length_cons, show bt + (qs.length + 1) = bt + 1 + qs.length by omega]
      exact e3 i hi
    · rw [e4 i hi j (by omega)]
      exact (ob i hi).2.1 j hj
    · cases j with
      | zero =>
        obtain rfl := Option.some.inj h1
        obtain rfl := Option.some.inj (hr.symm.trans h2)
        rw [Nat.add_zero, e4 i hi bt (by omega)]
        exact (ob i hi).2.2
      | succ j =>
        rw [List.getElem?_cons_succ] at h1
        rw [show bt + (j + 1) = bt + 1 + j by omega]
        exact e5 i hi j q' r' h1 h2
theorem claims_is {props : Int} (hp0 : 0 ≤ props) (hp1 : props ≤ 6) {stem loop : List (List Bool)} (hw : WordOk props stem loop) {t : Tm} (h : FormT props t) (hs : t.size ≤ 60) (ht : t.tempo ≤ 6) :
    ∃ (l : List Int) (cn : Nat → Nat), Ev (fun k => word_Claims.f k t.flat stem loop props) (l, 0) ∧ l.length = (stem ++ loop).length ∧ (∀ i, i < (stem ++ loop).length → l.getD i 0 = (cn i : Int) ∧ cn i < 2 ^ t.tempo) ∧
      ∀ (i j : Nat) (s : Tm), i < (stem ++ loop).length → t.asub[j]? = some s → ((cn i).testBit j = true ↔ s.says (uw (stem ++ loop) stem.length i)) := by
  obtain ⟨rs, h1, h2⟩ := opn_is hp0 hp1 hw h hs ht
  obtain ⟨qs, q1, q2, q3⟩ := rows_ahead h rs h1 0
  have hal := asub_len h
  have hq : ∀ q ∈ qs, ∃ r, rs[q]? = some r ∧ r.length = (stem ++ loop).length := by
    intro q hq
    obtain ⟨j, hj, rfl⟩ := List.getElem_of_mem hq
    have hj2 : j < t.asub.length := by omega
    obtain ⟨r, r1, r2⟩ := q3 j _ _ (List.getElem?_eq_getElem hj) (List.getElem?_eq_getElem hj2)
    exact ⟨r, r1, r2.1⟩
  obtain ⟨l, cn, e1, e2, e3, e4, e5⟩ := bits_fold (rows := rs) (n := (stem ++ loop).length) qs 0 (fun _ => 0) (List.replicate (stem ++ loop).length 0) List.length_replicate (fun i hi => ⟨by rw [List.getD_eq_getElem?_getD, List.getElem?_replicate, if_pos hi]; rfl, by decide⟩) (by omega) hq
  refine ⟨l, cn, ?_, e2, fun i hi => ?_, fun i j s hi hj => ?_⟩
  · unfold word_Claims.f
    refine Ev.bind h2 ?_
    simp only [if_true]
    refine Ev.bind (ahead_is hp0 hp1 h hs ht) ?_
    refine ev_some' ?_
    have q1' : aheadL 0 t.flat = qs.map (fun (q : Nat) => (q : Int)) := by
      have e : ((0 : Nat) : Int) = 0 := rfl
      rw [← e, q1]
      apply List.map_congr_left
      intro q _
      rw [Nat.zero_add]
    simp only [q1']
    rw [e1]
    rfl
  · have := e3 i hi
    rw [Nat.zero_add, q2] at this
    exact this
  · have hjl : j < qs.length := by have := (List.getElem?_eq_some_iff.1 hj).1; omega
    obtain ⟨r, r1, r2⟩ := q3 j _ s (List.getElem?_eq_getElem hjl) hj
    have := e5 i hi j _ r (List.getElem?_eq_getElem hjl) r1
    rw [Nat.zero_add] at this
    rw [this]
    exact r2.2 i hi
end Go.Proofs.YtcoaeefmmnohkaaDoor.Q
