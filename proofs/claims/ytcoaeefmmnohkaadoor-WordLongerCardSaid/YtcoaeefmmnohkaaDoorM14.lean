-- PACKED by pack.py of this repo: QWord
import Derived.Test.YtcoaeefmmnohkaaDoorM10
import Derived.Test.YtcoaeefmmnohkaaDoorM13
section
namespace Go.Proofs.YtcoaeefmmnohkaaDoor.Q
open Go.RowKit Go.Proofs.YtcoaeefmmnohkaaDoorW.PrintWords Go.Proofs.YtcoaeefmmnohkaaDoorW.PrintMore Go.Proofs.YtcoaeefmmnohkaaDoor.P
set_option linter.unusedVariables false
abbrev Om := Nat → List Bool
def Om.from_ (s : Om) (j : Nat) : Om := fun i => s (j + i)
theorem Om.from_zero (s : Om) : s.from_ 0 = s := by funext i; simp [Om.from_]
theorem Om.from_from (s : Om) (i j : Nat) : (s.from_ i).from_ j = s.from_ (i + j) := by funext m; simp only [Om.from_]; congr 1; omega
def Tm.says : Tm → Om → Prop
  | .leaf o, s => if o.f0 = 13 then rdOf false (s 0) o.f1 = true else o.f0 = 11
  | .un o a, s => if o.f0 = 10 then ¬ a.says s else if o.f0 = 14 then a.says (s.from_ 1) else if o.f0 = 17 then ∃ j, a.says (s.from_ j) else ∀ j, a.says (s.from_ j)
  | .bin o a b, s => if o.f0 = 8 then a.says s ∧ b.says s else if o.f0 = 9 then a.says s ∨ b.says s else if o.f0 = 15 then ∃ j, b.says (s.from_ j) ∧ ∀ m, m < j → a.says (s.from_ m) else ∀ j, b.says (s.from_ j) ∨ ∃ m, m < j ∧ a.says (s.from_ m)
def gd (r : List Bool) (i : Nat) : Bool := r.getD i false
theorem rdOf_gd (r : List Bool) (i : Nat) : rdOf false r (i : Int) = gd r i := by unfold rdOf gd; rw [Int.toNat_natCast]
def nx (n back i : Nat) : Nat := if i + 1 < n then i + 1 else back
theorem nxt_nx (n back i : Nat) : nxt n (back : Int) (i : Int) = ((nx n back i : Nat) : Int) := by
  unfold nxt nx
  by_cases c : i + 1 < n
  · rw [if_pos c, if_pos (by omega)]; omega
  · rw [if_neg c, if_neg (by omega)]
theorem nx_lt {n back i : Nat} (hb : back < n) : nx n back i < n := by unfold nx; split <;> omega
theorem gd_set {r : List Bool} {i : Nat} (j : Nat) (v : Bool) (hi : i < r.length) : gd (r.set i v) j = if j = i then v else gd r j := by
  unfold gd
  rw [List.getD_eq_getElem?_getD, List.getD_eq_getElem?_getD, List.getElem?_set]
  by_cases c : j = i
  · subst c; rw [if_pos rfl, if_pos rfl, if_pos hi]; rfl
  · rw [if_neg c, if_neg (fun h => c h.symm)]
theorem gd_mkr (F : Int → Bool) {n i : Nat} (hi : i < n) : gd (mkr F n) i = F (i : Int) := by simp [gd, mkr, hi]
theorem gd_rep (n i : Nat) : gd (List.replicate n false) i = false := by
  unfold gd
  rw [List.getD_eq_getElem?_getD, List.getElem?_replicate]
  split <;> rfl
theorem gd_map {r : List Bool} {i : Nat} (hi : i < r.length) : gd (r.map (!·)) i = !(gd r i) := by simp [gd, hi]
theorem cf_set : ∀ (r : List Bool) (i : Nat), i < r.length → gd r i = false → (r.set i true).count false + 1 = r.count false
  | [], i, h, _ => absurd h (by simp)
  | b :: r, 0, h, e => by
    have e' : b = false := e
    subst e'
    simp
  | b :: r, i + 1, h, e => by
    have := cf_set r i (by simpa using h) e
    simp only [List.set_cons_succ, List.count_cons]
    omega
structure SI (L : Int → Bool → Bool) (n back : Nat) (S : Nat → Prop) (r : List Bool) : Prop where
  len : r.length = n
  up : ∀ i, i < n → gd r i = true → L (i : Int) (gd r (nx n back i)) = true
  low : ∀ i, i < n → gd r i = true → S i
theorem swp_ok {L : Int → Bool → Bool} {n back : Nat} {S : Nat → Prop} (mono : ∀ i : Nat, L (i : Int) false = true → L (i : Int) true = true) (hS : ∀ i, i < n → ∀ b : Bool, (b = true → S (nx n back i)) → L (i : Int) b = true → S i) (hb : back < n) :
    ∀ (i : Nat) (r : List Bool) (c : Bool), i ≤ n → SI L n back S r → ∃ r' c', swp L n (back : Int) i r c = (r', c') ∧ SI L n back S r' ∧ r'.count false ≤ r.count false ∧ (c' = false → c = false ∧ r' = r ∧ ∀ j, j < i → L (j : Int) (gd r (nx n back j)) = gd r j) ∧ (c' = true → c = true ∨ r'.count false < r.count false) := by
  intro i
  induction i with
  | zero => intro r c _ h; exact ⟨r, c, rfl, h, Nat.le_refl _, fun e => ⟨e, rfl, by omega⟩, fun e => .inl e⟩
  | succ i ih =>
    intro r c hi h
    rw [swp_succ, nxt_nx, rdOf_gd, rdOf_gd]
    by_cases e : L (i : Int) (gd r (nx n back i)) = gd r i
    · rw [if_pos e]
      obtain ⟨r', c', h1, h2, h3, h4, h5⟩ := ih r c (by omega) h
      refine ⟨r', c', h1, h2, h3, fun hc => ?_, h5⟩
      obtain ⟨a1, a2, a3⟩ := h4 hc
      refine ⟨a1, a2, fun j hj => ?_⟩
      by_cases cj : j = i
      · rw [cj]; exact e
      · exact a3 j (by omega)
    · rw [if_neg e]
      have hg : gd r i = false := by
        cases hq : gd r i with
        | false => rfl
        | true => exact absurd ((h.up i (by omega) hq).trans hq.symm) e
      have hL : L (i : Int) (gd r (nx n back i)) = true := by
        cases hq : L (i : Int) (gd r (nx n back i)) with
        | true => rfl
        | false => exact absurd (hq.trans hg.symm) e
      rw [hL]
      have hil : i < r.length := by rw [h.len]; omega
      have up1 : ∀ j, gd r j = true → gd (r.set i true) j = true := by
        intro j hj
        rw [gd_set j true hil]
        split
        · rfl
        · exact hj
      have mon : ∀ j : Nat, L (j : Int) (gd r (nx n back j)) = true → L (j : Int) (gd (r.set i true) (nx n back j)) = true := by
        intro j hj
        cases hq : gd (r.set i true) (nx n back j) with
        | true =>
          cases hq2 : gd r (nx n back j) with
          | true => rw [hq2] at hj; exact hj
          | false => rw [hq2] at hj; exact mono j hj
        | false =>
          cases hq2 : gd r (nx n back j) with
          | true => rw [up1 _ hq2] at hq; exact absurd hq (by simp)
          | false => rw [hq2] at hj; exact hj
      have h' : SI L n back S (r.set i true) := by
        refine ⟨by rw [List.length_set]; exact h.len, fun j hj hg' => ?_, fun j hj hg' => ?_⟩
        · rw [gd_set j true hil] at hg'
          by_cases cj : j = i
          · subst cj; exact mon j hL
          · rw [if_neg cj] at hg'; exact mon j (h.up j hj hg')
        · rw [gd_set j true hil] at hg'
          by_cases cj : j = i
          · subst cj; exact hS j hj _ (fun hq => h.low _ (nx_lt hb) hq) hL
          · rw [if_neg cj] at hg'; exact h.low j hj hg'
      have hcf := cf_set r i hil hg
      obtain ⟨r', c', h1, h2, h3, h4, h5⟩ := ih (r.set i true) true (by omega) h'
      refine ⟨r', c', h1, h2, by omega, fun hc => ?_, fun _ => .inr (by omega)⟩
      exact absurd (h4 hc).1 (by simp)
theorem stl_go {L : Int → Bool → Bool} {n back : Nat} {S : Nat → Prop} (mono : ∀ i : Nat, L (i : Int) false = true → L (i : Int) true = true) (hS : ∀ i, i < n → ∀ b : Bool, (b = true → S (nx n back i)) → L (i : Int) b = true → S i) (hb : back < n) :
    ∀ (d : Nat) (r : List Bool), SI L n back S r → r.count false ≤ d → ∃ r', SI L n back S r' ∧ (∀ j, j < n → gd r' j = L (j : Int) (gd r' (nx n back j))) ∧ Ev (fun k => stl L n (back : Int) k r) r' := by
  intro d
  induction d with
  | zero =>
    intro r h hd
    obtain ⟨r', c', h1, h2, h3, h4, h5⟩ := swp_ok mono hS hb n r false (Nat.le_refl _) h
    cases c' with
    | true =>
      rcases h5 rfl with h | h
      · exact absurd h (by simp)
      · omega
    | false =>
      obtain ⟨_, rfl, a3⟩ := h4 rfl
      refine ⟨r', h, fun j hj => (a3 j hj).symm, Ev.step (f := fun _ => some r') (fun k => ?_) (Ev.now _)⟩
      rw [stl, h1]
      rfl
  | succ d ih =>
    intro r h hd
    obtain ⟨r', c', h1, h2, h3, h4, h5⟩ := swp_ok mono hS hb n r false (Nat.le_refl _) h
    cases c' with
    | true =>
      have : r'.count false < r.count false := by
        rcases h5 rfl with h | h
        · exact absurd h (by simp)
        · exact h
      obtain ⟨r2, b1, b2, b3⟩ := ih r' h2 (by omega)
      refine ⟨r2, b1, b2, Ev.step (fun k => ?_) b3⟩
      rw [stl, h1]
      exact if_pos rfl
    | false =>
      obtain ⟨_, rfl, a3⟩ := h4 rfl
      refine ⟨r', h, fun j hj => (a3 j hj).symm, Ev.step (f := fun _ => some r') (fun k => ?_) (Ev.now _)⟩
      rw [stl, h1]
      rfl
theorem stl_low {L : Int → Bool → Bool} {n back : Nat} {S : Nat → Prop} (mono : ∀ i : Nat, L (i : Int) false = true → L (i : Int) true = true) (hS : ∀ i, i < n → ∀ b : Bool, (b = true → S (nx n back i)) → L (i : Int) b = true → S i) (hb : back < n) :
    ∃ r, r.length = n ∧ (∀ i, i < n → gd r i = L (i : Int) (gd r (nx n back i))) ∧ (∀ i, i < n → gd r i = true → S i) ∧ Ev (fun k => stl L n (back : Int) k (List.replicate n false)) r := by
  obtain ⟨r, h1, h2, h3⟩ := stl_go mono hS hb n (List.replicate n false) ⟨List.length_replicate, fun i _ h => absurd h (by rw [gd_rep]; simp), fun i _ h => absurd h (by rw [gd_rep]; simp)⟩ (by have := List.count_le_length (a := false) (l := List.replicate n false); rw [List.length_replicate] at this; exact this)
  exact ⟨r, h1.len, h2, h1.low, h3⟩
theorem swp_len (L : Int → Bool → Bool) (n : Nat) (back : Int) : ∀ (i : Nat) (r : List Bool) (c : Bool), (swp L n back i r c).1.length = r.length
  | 0, _, _ => rfl
  | i + 1, r, c => by
    rw [swp_succ]
    split
    · exact swp_len L n back i r c
    · rw [swp_len L n back i, List.length_set]
theorem swp_not {L L' : Int → Bool → Bool} {n back : Nat} (hL : ∀ i b, L' i b = !(L i (!b))) (hb : back < n) : ∀ (i : Nat) (r : List Bool) (c : Bool), i ≤ n → r.length = n → swp L' n (back : Int) i (r.map (!·)) c = ((swp L n (back : Int) i r c).1.map (!·), (swp L n (back : Int) i r c).2)
  | 0, _, _, _, _ => rfl
  | i + 1, r, c, hi, hr => by
    have hx := nx_lt (i := i) hb
    rw [swp_succ, swp_succ, nxt_nx, rdOf_gd, rdOf_gd, rdOf_gd, rdOf_gd, gd_map (by omega), gd_map (by omega), hL, Bool.not_not]
    by_cases e : L (i : Int) (gd r (nx n back i)) = gd r i
    · rw [if_pos e, if_pos (by rw [e])]
      exact swp_not hL hb i r c (by omega) hr
    · rw [if_neg e, if_neg (fun h => e (by simpa using h))]
      rw [show (r.map (!·)).set i (!(L (i : Int) (gd r (nx n back i)))) = (r.set i (L (i : Int) (gd r (nx n back i)))).map (!·) from (List.map_set ..).symm]
      exact swp_not hL hb i _ true (by omega) (by rw [List.length_set]; exact hr)
theorem stl_not {L L' : Int → Bool → Bool} {n back : Nat} (hL : ∀ i b, L' i b = !(L i (!b))) (hb : back < n) : ∀ (k : Nat) (r : List Bool), r.length = n → stl L' n (back : Int) k (r.map (!·)) = (stl L n (back : Int) k r).map (List.map (!·))
  | 0, _, _ => rfl
  | k + 1, r, hr => by
    rw [stl, stl, swp_not hL hb n r false (Nat.le_refl _) hr]
    simp only
    by_cases c : (swp L n (back : Int) n r false).2 = true
    · rw [if_pos c, if_pos c]
      exact stl_not hL hb k _ (by rw [swp_len]; exact hr)
    · rw [if_neg c, if_neg c]
      rfl
theorem stl_high {L : Int → Bool → Bool} {n back : Nat} {S : Nat → Prop} (mono : ∀ i : Nat, L (i : Int) false = true → L (i : Int) true = true) (hS : ∀ i, i < n → S i → ∀ b : Bool, (S (nx n back i) → b = true) → L (i : Int) b = true) (hb : back < n) :
    ∃ r, r.length = n ∧ (∀ i, i < n → gd r i = L (i : Int) (gd r (nx n back i))) ∧ (∀ i, i < n → S i → gd r i = true) ∧ Ev (fun k => stl L n (back : Int) k (List.replicate n true)) r := by
  obtain ⟨r, h1, h2, h3, h4⟩ := stl_low (L := fun i b => !(L i (!b))) (n := n) (back := back) (S := fun i => ¬ S i) (fun i h => by
      simp only [Bool.not_false, Bool.not_true, Bool.not_eq_true'] at h ⊢
      cases hq : L (i : Int) false with
      | false => rfl
      | true => rw [mono i hq] at h; exact absurd h (by simp)) (fun i hi b hn h hs => by
      simp only [Bool.not_eq_true'] at h
      have := hS i hi hs (!b) (fun hx => by cases b <;> first | rfl | exact absurd hx (hn rfl))
      rw [this] at h
      exact absurd h (by simp)) hb
  refine ⟨r.map (!·), by rw [List.length_map]; exact h1, fun i hi => ?_, fun i hi hs => ?_, ?_⟩
  · rw [gd_map (by omega), gd_map (by have := nx_lt (i := i) hb; omega), h2 i hi, Bool.not_not]
  · rw [gd_map (by omega)]
    cases hq : gd r i with
    | false => rfl
    | true => exact absurd hs (h3 i hi hq)
  · have e : List.replicate n true = (List.replicate n false).map (!·) := by simp
    obtain ⟨K, hK⟩ := h4
    refine ⟨K, fun k hk => ?_⟩
    show stl L n (back : Int) k (List.replicate n true) = _
    rw [e, stl_not (L := fun i b => !(L i (!b))) (fun i b => by simp) hb k _ List.length_replicate, show stl (fun i b => !(L i (!b))) n (back : Int) k (List.replicate n false) = some r from hK k hk]
    rfl
def itn (n back : Nat) : Nat → Nat → Nat
  | 0, i => i
  | j + 1, i => itn n back j (nx n back i)
theorem itn_lt {n back : Nat} (hb : back < n) : ∀ (j i : Nat), i < n → itn n back j i < n
  | 0, i, h => h
  | j + 1, i, h => itn_lt hb j _ (nx_lt hb)
theorem itn_add (n back : Nat) : ∀ (j m i : Nat), itn n back (j + m) i = itn n back m (itn n back j i)
  | 0, m, i => by rw [Nat.zero_add]; rfl
  | j + 1, m, i => by rw [show j + 1 + m = (j + m) + 1 by omega]; exact itn_add n back j m _
def uw (xs : List (List Bool)) (back i : Nat) : Om := fun j => xs.getD (itn xs.length back j i) []
theorem uw_from (xs : List (List Bool)) (back i j : Nat) : (uw xs back i).from_ j = uw xs back (itn xs.length back j i) := by
  funext m
  simp only [Om.from_, uw, itn_add]
theorem uw_next (xs : List (List Bool)) (back i : Nat) : (uw xs back i).from_ 1 = uw xs back (nx xs.length back i) := uw_from xs back i 1
def RowOf (xs : List (List Bool)) (back : Nat) (t : Tm) (r : List Bool) : Prop := r.length = xs.length ∧ ∀ i, i < xs.length → (gd r i = true ↔ t.says (uw xs back i))
section
variable {xs : List (List Bool)} {back : Nat} {a b : Tm} {ra rb : List Bool}
theorem row_F (hb : back < xs.length) (ha : RowOf xs back a ra) : ∃ r, RowOf xs back (.un ⟨17, 0⟩ a) r ∧ Ev (fun k => stl (fun i l => rdOf false ra i || l) xs.length (back : Int) k (List.replicate xs.length false)) r := by
  obtain ⟨r, h1, h2, h3, h4⟩ := stl_low (L := fun i l => rdOf false ra i || l) (n := xs.length) (back := back) (S := fun i => ∃ j, a.says ((uw xs back i).from_ j)) (fun i _ => by simp) (fun i hi b hn h => by
    rw [Bool.or_eq_true, rdOf_gd] at h
    rcases h with h | h
    · exact ⟨0, by rw [Om.from_zero]; exact (ha.2 i hi).mp h⟩
    · obtain ⟨j, hj⟩ := hn h
      exact ⟨1 + j, by rw [← Om.from_from, uw_next]; exact hj⟩) hb
  refine ⟨r, ⟨h1, fun i hi => ⟨fun h => h3 i hi h, fun h => ?_⟩⟩, h4⟩
  obtain ⟨j, hj⟩ : ∃ j, a.says ((uw xs back i).from_ j) := h
  induction j generalizing i with
  | zero =>
    rw [Om.from_zero] at hj
    rw [h2 i hi, rdOf_gd, (ha.2 i hi).mpr hj]
    rfl
  | succ j ih =>
    rw [show j + 1 = 1 + j by omega, ← Om.from_from, uw_next] at hj
    rw [h2 i hi, ih (nx xs.length back i) (nx_lt hb) hj, Bool.or_true]
theorem row_G (hb : back < xs.length) (ha : RowOf xs back a ra) : ∃ r, RowOf xs back (.un ⟨18, 0⟩ a) r ∧ Ev (fun k => stl (fun i l => rdOf false ra i && l) xs.length (back : Int) k (List.replicate xs.length true)) r := by
  obtain ⟨r, h1, h2, h3, h4⟩ := stl_high (L := fun i l => rdOf false ra i && l) (n := xs.length) (back := back) (S := fun i => ∀ j, a.says ((uw xs back i).from_ j)) (fun i h => by simp at h) (fun i hi hs b hn => by
    rw [Bool.and_eq_true, rdOf_gd]
    refine ⟨(ha.2 i hi).mpr (by have := hs 0; rw [Om.from_zero] at this; exact this), hn (fun j => ?_)⟩
    have := hs (1 + j)
    rw [← Om.from_from, uw_next] at this
    exact this) hb
  refine ⟨r, ⟨h1, fun i hi => ⟨fun h => ?_, fun h => h3 i hi h⟩⟩, h4⟩
  show ∀ j, a.says ((uw xs back i).from_ j)
  intro j
  induction j generalizing i with
  | zero =>
    rw [h2 i hi, Bool.and_eq_true, rdOf_gd] at h
    rw [Om.from_zero]
    exact (ha.2 i hi).mp h.1
  | succ j ih =>
    rw [h2 i hi, Bool.and_eq_true] at h
    rw [show j + 1 = 1 + j by omega, ← Om.from_from, uw_next]
    exact ih _ (nx_lt hb) h.2
theorem row_U (hb : back < xs.length) (ha : RowOf xs back a ra) (hbb : RowOf xs back b rb) : ∃ r, RowOf xs back (.bin ⟨15, 0⟩ a b) r ∧ Ev (fun k => stl (fun i l => rdOf false rb i || rdOf false ra i && l) xs.length (back : Int) k (List.replicate xs.length false)) r := by
  obtain ⟨r, h1, h2, h3, h4⟩ := stl_low (L := fun i l => rdOf false rb i || rdOf false ra i && l) (n := xs.length) (back := back) (S := fun i => ∃ j, b.says ((uw xs back i).from_ j) ∧ ∀ m, m < j → a.says ((uw xs back i).from_ m)) (fun i h => by
      rw [Bool.and_false, Bool.or_false] at h
      rw [h, Bool.true_or]) (fun i hi c hn h => by
    rw [Bool.or_eq_true, Bool.and_eq_true, rdOf_gd, rdOf_gd] at h
    rcases h with h | ⟨h, hc⟩
    · exact ⟨0, by rw [Om.from_zero]; exact (hbb.2 i hi).mp h, by omega⟩
    · obtain ⟨j, hj, hm⟩ := hn hc
      refine ⟨1 + j, by rw [← Om.from_from, uw_next]; exact hj, fun m hm' => ?_⟩
      cases m with
      | zero => rw [Om.from_zero]; exact (ha.2 i hi).mp h
      | succ m => rw [show m + 1 = 1 + m by omega, ← Om.from_from, uw_next]; exact hm m (by omega)) hb
  refine ⟨r, ⟨h1, fun i hi => ⟨fun h => h3 i hi h, fun h => ?_⟩⟩, h4⟩
  obtain ⟨j, hj, hm⟩ : ∃ j, b.says ((uw xs back i).from_ j) ∧ ∀ m, m < j → a.says ((uw xs back i).from_ m) := h
  induction j generalizing i with
  | zero =>
    rw [Om.from_zero] at hj
    rw [h2 i hi, rdOf_gd, (hbb.2 i hi).mpr hj]
    rfl
  | succ j ih =>
    rw [show j + 1 = 1 + j by omega, ← Om.from_from, uw_next] at hj
    have h0 := hm 0 (by omega)
    rw [Om.from_zero] at h0
    rw [h2 i hi, rdOf_gd, rdOf_gd, (ha.2 i hi).mpr h0, ih (nx xs.length back i) (nx_lt hb) hj (fun m hm' => by
      have := hm (1 + m) (by omega)
      rw [← Om.from_from, uw_next] at this
      exact this)]
    simp
theorem row_R (hb : back < xs.length) (ha : RowOf xs back a ra) (hbb : RowOf xs back b rb) : ∃ r, RowOf xs back (.bin ⟨16, 0⟩ a b) r ∧ Ev (fun k => stl (fun i l => rdOf false rb i && (rdOf false ra i || l)) xs.length (back : Int) k (List.replicate xs.length true)) r := by
  obtain ⟨r, h1, h2, h3, h4⟩ := stl_high (L := fun i l => rdOf false rb i && (rdOf false ra i || l)) (n := xs.length) (back := back) (S := fun i => ∀ j, b.says ((uw xs back i).from_ j) ∨ ∃ m, m < j ∧ a.says ((uw xs back i).from_ m)) (fun i h => by
      rw [Bool.or_false, Bool.and_eq_true] at h
      rw [h.1, Bool.or_true]; rfl) (fun i hi hs c hn => by
    rw [Bool.and_eq_true, Bool.or_eq_true, rdOf_gd, rdOf_gd]
    refine ⟨(hbb.2 i hi).mpr ?_, ?_⟩
    · rcases hs 0 with h | ⟨m, hm, _⟩
      · rw [Om.from_zero] at h; exact h
      · omega
    · cases hq : gd ra i with
      | true => exact .inl rfl
      | false =>
        refine .inr (hn (fun j => ?_))
        rcases hs (1 + j) with h | ⟨m, hm, h⟩
        · rw [← Om.from_from, uw_next] at h; exact .inl h
        · cases m with
          | zero =>
            rw [Om.from_zero] at h
            rw [(ha.2 i hi).mpr h] at hq
            exact absurd hq (by simp)
          | succ m =>
            rw [show m + 1 = 1 + m by omega, ← Om.from_from, uw_next] at h
            exact .inr ⟨m, by omega, h⟩) hb
  refine ⟨r, ⟨h1, fun i hi => ⟨fun h => ?_, fun h => h3 i hi h⟩⟩, h4⟩
  show ∀ j, b.says ((uw xs back i).from_ j) ∨ ∃ m, m < j ∧ a.says ((uw xs back i).from_ m)
  intro j
  induction j generalizing i with
  | zero =>
    rw [h2 i hi, Bool.and_eq_true, rdOf_gd] at h
    rw [Om.from_zero]
    exact .inl ((hbb.2 i hi).mp h.1)
  | succ j ih =>
    rw [h2 i hi, Bool.and_eq_true, Bool.or_eq_true, rdOf_gd, rdOf_gd] at h
    rcases h.2 with h' | h'
    · exact .inr ⟨0, by omega, by rw [Om.from_zero]; exact (ha.2 i hi).mp h'⟩
    · rw [show j + 1 = 1 + j by omega, ← Om.from_from, uw_next]
      rcases ih _ (nx_lt hb) h' with q | ⟨m, hm, q⟩
      · exact .inl q
      · exact .inr ⟨1 + m, by omega, by rw [← Om.from_from, uw_next]; exact q⟩
theorem row_N (ha : RowOf xs back a ra) : RowOf xs back (.un ⟨10, 0⟩ a) (mkr (fun i => !(rdOf false ra i)) xs.length) := by
  refine ⟨mkr_len _ _, fun i hi => ?_⟩
  rw [gd_mkr _ hi, rdOf_gd]
  have := ha.2 i hi
  show _ ↔ ¬ a.says (uw xs back i)
  rw [← this]
  cases gd ra i <;> simp
theorem row_X (hb : back < xs.length) (ha : RowOf xs back a ra) : RowOf xs back (.un ⟨14, 0⟩ a) (mkr (fun i => rdOf false ra (nxt xs.length (back : Int) i)) xs.length) := by
  refine ⟨mkr_len _ _, fun i hi => ?_⟩
  rw [gd_mkr _ hi, nxt_nx, rdOf_gd]
  show _ ↔ a.says ((uw xs back i).from_ 1)
  rw [uw_next]
  exact ha.2 _ (nx_lt hb)
theorem row_A (ha : RowOf xs back a ra) (hbb : RowOf xs back b rb) : RowOf xs back (.bin ⟨8, 0⟩ a b) (mkr (fun i => rdOf false ra i && rdOf false rb i) xs.length) := by
  refine ⟨mkr_len _ _, fun i hi => ?_⟩
  rw [gd_mkr _ hi, rdOf_gd, rdOf_gd, Bool.and_eq_true, ha.2 i hi, hbb.2 i hi]
  exact Iff.rfl
theorem row_O (ha : RowOf xs back a ra) (hbb : RowOf xs back b rb) : RowOf xs back (.bin ⟨9, 0⟩ a b) (mkr (fun i => rdOf false ra i || rdOf false rb i) xs.length) := by
  refine ⟨mkr_len _ _, fun i hi => ?_⟩
  rw [gd_mkr _ hi, rdOf_gd, rdOf_gd, Bool.or_eq_true, ha.2 i hi, hbb.2 i hi]
  exact Iff.rfl
end
def RowsOf (xs : List (List Bool)) (back : Nat) : Tm → List (List Bool) → Prop
  | .leaf o, rs => ∃ r, rs = [r] ∧ RowOf xs back (.leaf o) r
  | .un o a, rs => ∃ r ra, rs = r :: ra ∧ RowOf xs back (.un o a) r ∧ RowsOf xs back a ra
  | .bin o a b, rs => ∃ r ra rb, rs = r :: (ra ++ rb) ∧ RowOf xs back (.bin o a b) r ∧ RowsOf xs back a ra ∧ RowsOf xs back b rb
theorem RowsOf.len {xs : List (List Bool)} {back : Nat} : ∀ {t : Tm} {rs : List (List Bool)}, RowsOf xs back t rs → rs.length = t.size
  | .leaf o, rs, h => by obtain ⟨r, rfl, _⟩ := h; rfl
  | .un o a, rs, h => by obtain ⟨r, ra, rfl, _, h2⟩ := h; rw [List.length_cons, h2.len]; rfl
  | .bin o a b, rs, h => by obtain ⟨r, ra, rb, rfl, _, h2, h3⟩ := h; rw [List.length_cons, List.length_append, h2.len, h3.len]; rfl
theorem RowsOf.head {xs : List (List Bool)} {back : Nat} : ∀ {t : Tm} {rs : List (List Bool)}, RowsOf xs back t rs → ∃ r rest, rs = r :: rest ∧ RowOf xs back t r
  | .leaf o, rs, h => by obtain ⟨r, rfl, h1⟩ := h; exact ⟨r, [], rfl, h1⟩
  | .un o a, rs, h => by obtain ⟨r, ra, rfl, h1, h2⟩ := h; exact ⟨r, ra, rfl, h1⟩
  | .bin o a b, rs, h => by obtain ⟨r, ra, rb, rfl, h1, h2, h3⟩ := h; exact ⟨r, _, rfl, h1⟩
theorem wrow1 {k : Nat} {o : Op} {es : List Int} {xs : List (List Bool)} {back : Int} {p : Nat} {rows : List (List Bool)} {a : List Bool} (hr : rows[0]? = some a) (ho : o.f0 = 17 ∨ o.f0 = 18 ∨ o.f0 = 10 ∨ o.f0 = 14) : word_row k o es xs back p rows = row1 xs.length back a k o.f0 := by
  unfold word_row
  rw [if_neg (by omega), hr, Option.bind_some, if_pos ho]
theorem wrow2 {k : Nat} {o : Op} {es : List Int} {xs : List (List Bool)} {back : Int} {p q : Nat} {rows : List (List Bool)} {a b : List Bool} (hr : rows[0]? = some a) (he : es[p + 1]? = some (((p + 1 + q : Nat)) : Int)) (hq : rows[q]? = some b) (ho : o.f0 = 15 ∨ o.f0 = 16 ∨ o.f0 = 8 ∨ o.f0 = 9) : word_row k o es xs back p rows = row2 xs.length back a b k o.f0 := by
  unfold word_row
  rw [if_neg (by omega), hr, Option.bind_some, if_neg (by omega), he, Option.bind_some, if_pos (by omega), show (((p + 1 + q : Nat) : Int) - ((p : Int) + 1)).toNat = q by omega, hq, Option.bind_some]
theorem rows_form {props : Int} {xs : List (List Bool)} {back : Nat} (hb : back < xs.length) (hx : ∀ x ∈ xs, (x.length : Int) = props) {t : Tm} (h : FormT props t) : ∀ (ops : List Op) (es : List Int) (p : Nat) (post : List (List Bool)), Lies t (p : Int) ops es →
    ∃ rs, RowsOf xs back t rs ∧ ∀ res, Ev (fun k => word_rows k ops es xs (back : Int) p (rs ++ post)) res → Ev (fun k => word_rows k ops es xs (back : Int) (p + t.size) post) res := by
  have hstep : ∀ (o : Op) (ops : List Op) (es : List Int) (p : Nat) (rows : List (List Bool)) (r : List Bool) (res : List (List Bool)), rd_T51 ops (p : Int) = o → Ev (fun k => word_row k o es xs (back : Int) p rows) r → Ev (fun k => word_rows k ops es xs (back : Int) p (r :: rows)) res → Ev (fun k => word_rows k ops es xs (back : Int) (p + 1) rows) res := by
    intro o ops es p rows r res ho hr hres
    refine Ev.congr (fun k => ?_) (Ev.bind (f := fun k r => word_rows k ops es xs (back : Int) p (r :: rows)) hr hres)
    rw [word_rows, ho]
  have hun : ∀ (o : Int) (a : Tm), (o = 17 ∨ o = 18 ∨ o = 10 ∨ o = 14) →
      (∀ ra, RowOf xs back a ra → ∃ r, RowOf xs back (.un ⟨o, 0⟩ a) r ∧ Ev (fun k => row1 xs.length (back : Int) ra k o) r) →
      (∀ (ops : List Op) (es : List Int) (p : Nat) (post : List (List Bool)), Lies a (p : Int) ops es → ∃ rs, RowsOf xs back a rs ∧ ∀ res, Ev (fun k => word_rows k ops es xs (back : Int) p (rs ++ post)) res → Ev (fun k => word_rows k ops es xs (back : Int) (p + a.size) post) res) →
      ∀ (ops : List Op) (es : List Int) (p : Nat) (post : List (List Bool)), Lies (.un ⟨o, 0⟩ a) (p : Int) ops es → ∃ rs, RowsOf xs back (.un ⟨o, 0⟩ a) rs ∧ ∀ res, Ev (fun k => word_rows k ops es xs (back : Int) p (rs ++ post)) res → Ev (fun k => word_rows k ops es xs (back : Int) (p + (Tm.un ⟨o, 0⟩ a).size) post) res := by
    intro o a ho hrow ih ops es p post hp
    obtain ⟨rsa, h1, h2⟩ := ih ops es (p + 1) post (by rw [show ((p + 1 : Nat) : Int) = (p : Int) + 1 by omega]; exact hp.un)
    obtain ⟨ra, rest, rfl, hra⟩ := h1.head
    obtain ⟨r, hr, her⟩ := hrow ra hra
    refine ⟨r :: (ra :: rest), ⟨r, ra :: rest, rfl, hr, h1⟩, fun res hres => ?_⟩
    rw [show p + (Tm.un ⟨o, 0⟩ a).size = p + 1 + a.size by show p + (a.size + 1) = _; omega]
    exact h2 res (hstep ⟨o, 0⟩ ops es p _ r res hp.rt.1 (Ev.congr (fun k => wrow1 (o := ⟨o, 0⟩) rfl ho) her) hres)
  have hbin : ∀ (o : Int) (a b : Tm), (o = 15 ∨ o = 16 ∨ o = 8 ∨ o = 9) →
      (∀ ra rb, RowOf xs back a ra → RowOf xs back b rb → ∃ r, RowOf xs back (.bin ⟨o, 0⟩ a b) r ∧ Ev (fun k => row2 xs.length (back : Int) ra rb k o) r) →
      (∀ (ops : List Op) (es : List Int) (p : Nat) (post : List (List Bool)), Lies a (p : Int) ops es → ∃ rs, RowsOf xs back a rs ∧ ∀ res, Ev (fun k => word_rows k ops es xs (back : Int) p (rs ++ post)) res → Ev (fun k => word_rows k ops es xs (back : Int) (p + a.size) post) res) →
      (∀ (ops : List Op) (es : List Int) (p : Nat) (post : List (List Bool)), Lies b (p : Int) ops es → ∃ rs, RowsOf xs back b rs ∧ ∀ res, Ev (fun k => word_rows k ops es xs (back : Int) p (rs ++ post)) res → Ev (fun k => word_rows k ops es xs (back : Int) (p + b.size) post) res) →
      ∀ (ops : List Op) (es : List Int) (p : Nat) (post : List (List Bool)), Lies (.bin ⟨o, 0⟩ a b) (p : Int) ops es → ∃ rs, RowsOf xs back (.bin ⟨o, 0⟩ a b) rs ∧ ∀ res, Ev (fun k => word_rows k ops es xs (back : Int) p (rs ++ post)) res → Ev (fun k => word_rows k ops es xs (back : Int) (p + (Tm.bin ⟨o, 0⟩ a b).size) post) res := by
    intro o a b ho hrow iha ihb ops es p post hp
    have hpl := hp.left
    have hpr := hp.right
    obtain ⟨rsb, b1, b2⟩ := ihb ops es (p + 1 + a.size) post (by rw [show ((p + 1 + a.size : Nat) : Int) = (p : Int) + 1 + a.size by omega]; exact hpr)
    obtain ⟨rsa, a1, a2⟩ := iha ops es (p + 1) (rsb ++ post) (by rw [show ((p + 1 : Nat) : Int) = (p : Int) + 1 by omega]; exact hpl)
    have la := a1.len
    obtain ⟨ra, resta, ea, hra⟩ := a1.head
    obtain ⟨rb, restb, eb, hrb⟩ := b1.head
    obtain ⟨r, hr, her⟩ := hrow ra rb hra hrb
    refine ⟨r :: (rsa ++ rsb), ⟨r, rsa, rsb, rfl, hr, a1, b1⟩, fun res hres => ?_⟩
    rw [show p + (Tm.bin ⟨o, 0⟩ a b).size = p + 1 + a.size + b.size by show p + (a.size + b.size + 1) = _; omega]
    refine b2 res (a2 res (hstep ⟨o, 0⟩ ops es p _ r res hp.rt.1 (Ev.congr (fun k => wrow2 (o := ⟨o, 0⟩) (q := a.size) (a := ra) (b := rb) ?_ ?_ ?_ ho) her) ?_))
    · rw [ea]; rfl
    · have h0 := hpl.p0
      have h1 := hpl.rt.2
      have sz := a.size_pos
      have hlt : p + 1 < es.length := by omega
      unfold rd at h1
      rw [show ((p : Int) + 1).toNat = p + 1 by omega, List.getD_eq_getElem?_getD, List.getElem?_eq_getElem hlt] at h1
      have h2 : es[p + 1] = (p : Int) + 1 + a.size := h1
      rw [List.getElem?_eq_getElem hlt, h2]
      congr 1
    · rw [List.getElem?_append_right (by omega), la, Nat.sub_self, eb]; rfl
    · rw [List.cons_append, List.append_assoc] at hres
      exact hres
  induction h with
  | prop v h0 h1 =>
    intro ops es p post hp
    have hw : ∀ k, word_row k ⟨13, v⟩ es xs (back : Int) p post = some (mkr (fun i => rdOf false (xs.getD i.toNat []) v) xs.length) := by
      intro k
      unfold word_row row0
      simp only
      rw [if_pos (.inl trivial), if_pos trivial, if_pos]
      refine ⟨h0, fun i hi => ?_⟩
      have := hx (xs.getD i []) (by rw [List.getD_eq_getElem?_getD, List.getElem?_eq_getElem hi]; exact List.getElem_mem _)
      omega
    refine ⟨[mkr (fun i => rdOf false (xs.getD i.toNat []) v) xs.length], ⟨_, rfl, mkr_len _ _, fun i hi => ?_⟩, fun res hres => hstep ⟨13, v⟩ ops es p post _ res hp.rt.1 (Ev.congr hw (Ev.now _)) hres⟩
    rw [gd_mkr _ hi, Int.toNat_natCast]
    exact Iff.rfl
  | yes o h =>
    intro ops es p post hp
    rcases h with rfl | rfl
    · refine ⟨[mkr (fun _ => true) xs.length], ⟨_, rfl, mkr_len _ _, fun i hi => ?_⟩, fun res hres => hstep ⟨11, 0⟩ ops es p post _ res hp.rt.1 (ev_some rfl) hres⟩
      rw [gd_mkr _ hi]
      exact ⟨fun _ => rfl, fun _ => rfl⟩
    · refine ⟨[mkr (fun _ => false) xs.length], ⟨_, rfl, mkr_len _ _, fun i hi => ?_⟩, fun res hres => hstep ⟨12, 0⟩ ops es p post _ res hp.rt.1 (ev_some rfl) hres⟩
      rw [gd_mkr _ hi]
      exact ⟨fun h => absurd h (by simp), fun h => absurd (show (12 : Int) = 11 from h) (by decide)⟩
  | not a ha ih => exact hun 10 a (.inr (.inr (.inl rfl))) (fun ra hra => ⟨_, row_N hra, ev_some rfl⟩) ih
  | look o a h ha ih =>
    rcases h with rfl | rfl | rfl
    · exact hun 14 a (by decide) (fun ra hra => ⟨_, row_X hb hra, ev_some rfl⟩) ih
    · exact hun 17 a (by decide) (fun ra hra => row_F hb hra) ih
    · exact hun 18 a (by decide) (fun ra hra => row_G hb hra) ih
  | log o a b h ha hb' iha ihb =>
    rcases h with rfl | rfl
    · exact hbin 8 a b (by decide) (fun ra rb h1 h2 => ⟨_, row_A h1 h2, ev_some rfl⟩) iha ihb
    · exact hbin 9 a b (by decide) (fun ra rb h1 h2 => ⟨_, row_O h1 h2, ev_some rfl⟩) iha ihb
  | unto o a b h ha hb' iha ihb =>
    rcases h with rfl | rfl
    · exact hbin 15 a b (by decide) (fun ra rb h1 h2 => row_U hb h1 h2) iha ihb
    · exact hbin 16 a b (by decide) (fun ra rb h1 h2 => row_R hb h1 h2) iha ihb
structure WordOk (props : Int) (stem loop : List (List Bool)) : Prop where
  s : stem.length ≤ 12
  l1 : 1 ≤ loop.length
  l2 : loop.length ≤ 12
  all : ∀ x ∈ stem ++ loop, (x.length : Int) = props
theorem opn_is {props : Int} (hp0 : 0 ≤ props) (hp1 : props ≤ 6) {stem loop : List (List Bool)} (hw : WordOk props stem loop) {t : Tm} (h : FormT props t) (hs : t.size ≤ 60) (ht : t.tempo ≤ 6) :
    ∃ rs, RowsOf (stem ++ loop) stem.length t rs ∧ Ev (fun k => word_opn k t.flat stem loop props) (rs, 0) := by
  have hl := t.flat_len
  have he := t.ends_len 0
  have hz := t.size_pos
  have hbk : stem.length < (stem ++ loop).length := by rw [List.length_append]; have := hw.l1; omega
  obtain ⟨rs, h1, h2⟩ := rows_form hbk hw.all h t.flat (t.ends 0) 0 [] (lies_whole t)
  refine ⟨rs, h1, ?_⟩
  have hc : word_chk stem loop props = 0 := by
    unfold word_chk
    rw [if_neg (by omega), if_neg (by omega), if_neg (by have := hw.s; omega), if_neg (by have := hw.l1; omega), if_neg (by have := hw.l2; omega), if_pos hw.all]
  have e3 := h2 rs (by rw [List.append_nil]; exact Ev.now rs)
  rw [Nat.zero_add] at e3
  unfold word_opn
  refine Ev.bind (check_is hp0 hp1 h hs ht) ?_
  simp only [if_true, hc]
  refine Ev.bind (ends_ok t h.ok hs) ?_
  simp only [if_pos (show 0 < t.flat.length ∧ t.flat.length ≤ 1000 ∧ 0 < (t.ends 0).length by omega)]
  rw [hl]
  exact Ev.bind e3 (Ev.now _)
theorem moments_is {props : Int} (hp0 : 0 ≤ props) (hp1 : props ≤ 6) {stem loop : List (List Bool)} (hw : WordOk props stem loop) {t : Tm} (h : FormT props t) (hs : t.size ≤ 60) (ht : t.tempo ≤ 6) :
    ∃ r, RowOf (stem ++ loop) stem.length t r ∧ Ev (fun k => word_Moments.f k t.flat stem loop props) (r, 0) := by
  obtain ⟨rs, h1, h2⟩ := opn_is hp0 hp1 hw h hs ht
  obtain ⟨r, rest, rfl, h3⟩ := h1.head
  refine ⟨r, h3, ?_⟩
  unfold word_Moments.f
  exact Ev.bind h2 (Ev.now _)
end Go.Proofs.YtcoaeefmmnohkaaDoor.Q
end
