/- Graphs of states: what reaches what; a worklist's law. -/
import Derived.Test.YtpkigkmkolbiiaaQ
import Derived.Test.YtpkigkmkolbiiaaFSccReached
namespace Go.Proofs.Ytpkigkmkolbiiaa.Q
open Go.RowKit Go.Proofs.YtpkigkmkolbiiaaW.PrintWords Go.Proofs.YtpkigkmkolbiiaaW.PrintMore Go.Proofs.Ytpkigkmkolbiiaa.P
set_option linter.unusedVariables false
/-- From one to another along the lists of what comes next. -/
inductive Rch (nx : List (List Int)) : Int → Int → Prop
  | refl (a : Int) : Rch nx a a
  | tail {a b c : Int} : Rch nx a b → c ∈ rd_L1 nx b → Rch nx a c
theorem Rch.trans {nx : List (List Int)} {a b c : Int} (h : Rch nx a b) (h2 : Rch nx b c) : Rch nx a c := by
  induction h2 with
  | refl => exact h
  | tail _ hc ih => exact ih.tail hc
def sn (seen : List Bool) (j : Int) : Prop := rdOf false seen j = true
structure Gr (n : Nat) (nx : List (List Int)) : Prop where
  len : nx.length = n
  le : n ≤ 20000
  ok : ∀ a : Int, 0 ≤ a → a < n → ∀ b ∈ rd_L1 nx a, 0 ≤ b ∧ b < n
  len2 : ∀ a : Int, (rd_L1 nx a).length < 4611686018427387904
theorem Rch.rng {n : Nat} {nx : List (List Int)} (g : Gr n nx) {a b : Int} (h : Rch nx a b) (h0 : 0 ≤ a) (h1 : a < n) : 0 ≤ b ∧ b < n := by
  induction h with
  | refl => exact ⟨h0, h1⟩
  | tail _ hc ih => exact g.ok _ ih.1 ih.2 _ hc
/-- A worklist's state: what was seen, what is still to be looked at, and of the one that is being looked at what is left. -/
structure Wl (n : Nat) (nx : List (List Int)) (S : Int → Prop) (seen : List Bool) (pend : List Int) (y : Int) (rest : List Int) : Prop where
  sl : seen.length = n
  frm : ∀ j : Int, 0 ≤ j → j < n → sn seen j → ∃ s, S s ∧ Rch nx s j
  pnd : ∀ x ∈ pend, 0 ≤ x ∧ x < n ∧ sn seen x
  cls : ∀ j : Int, 0 ≤ j → j < n → sn seen j → ∀ b ∈ rd_L1 nx j, sn seen b ∨ j ∈ pend ∨ (j = y ∧ b ∈ rest)
theorem sn_set {seen : List Bool} {b : Int} (h0 : 0 ≤ b) (h1 : b < seen.length) (j : Int) (hj : 0 ≤ j) : sn (seen.set b.toNat true) j ↔ j = b ∨ sn seen j := by
  unfold sn rdOf
  rw [List.getD_eq_getElem?_getD, List.getD_eq_getElem?_getD, List.getElem?_set]
  by_cases c : b.toNat = j.toNat
  · have e : j = b := by omega
    rw [if_pos c, if_pos (by omega)]
    simp [e]
  · have e : j ≠ b := by omega
    rw [if_neg c]
    simp [e]
theorem sn_true {seen : List Bool} {j : Int} (h : sn seen j) : j.toNat < seen.length := by
  unfold sn rdOf at h
  rw [List.getD_eq_getElem?_getD] at h
  by_cases c : j.toNat < seen.length
  · exact c
  · rw [List.getElem?_eq_none (by omega)] at h
    exact absurd h (by simp)
theorem cnt_set {seen : List Bool} {b : Int} (h1 : b.toNat < seen.length) (h : ¬ sn seen b) : (seen.set b.toNat true).count false + 1 = seen.count false := by
  have e : seen[b.toNat] = false := by
    unfold sn rdOf at h
    rw [List.getD_eq_getElem?_getD, List.getElem?_eq_getElem h1] at h
    simpa using h
  have hp : 0 < seen.count false := List.count_pos_iff.2 (by rw [← e]; exact List.getElem_mem h1)
  rw [List.count_set h1, e]
  simp
  omega
section
variable {n : Nat} {nx : List (List Int)} {S : Int → Prop} {seen : List Bool} {pend pend' : List Int} {y b : Int} {rest : List Int}
theorem Wl.skip (h : Wl n nx S seen pend y (b :: rest)) (hb : sn seen b) : Wl n nx S seen pend y rest := by
  refine ⟨h.sl, h.frm, h.pnd, fun j h0 h1 hj c hc => ?_⟩
  rcases h.cls j h0 h1 hj c hc with h | h | ⟨e, h⟩
  · exact .inl h
  · exact .inr (.inl h)
  · rcases List.mem_cons.mp h with rfl | h
    · exact .inl hb
    · exact .inr (.inr ⟨e, h⟩)
theorem Wl.put (h : Wl n nx S seen pend y (b :: rest)) (h0 : 0 ≤ b) (h1 : b < n) (hr : ∃ s, S s ∧ Rch nx s b) (g : Gr n nx) (hp : ∀ x, x ∈ pend' ↔ x = b ∨ x ∈ pend) : Wl n nx S (seen.set b.toNat true) pend' y rest := by
  have hl : b < seen.length := by rw [h.sl]; exact h1
  refine ⟨by rw [List.length_set]; exact h.sl, fun j j0 j1 hj => ?_, fun x hx => ?_, fun j j0 j1 hj c hc => ?_⟩
  · rcases (sn_set h0 hl j j0).1 hj with rfl | hj
    · exact hr
    · exact h.frm j j0 j1 hj
  · rcases (hp x).1 hx with rfl | hx
    · exact ⟨h0, h1, (sn_set h0 hl _ h0).2 (.inl rfl)⟩
    · obtain ⟨x0, x1, xs⟩ := h.pnd x hx
      exact ⟨x0, x1, (sn_set h0 hl x x0).2 (.inr xs)⟩
  · have hc0 := (g.ok j j0 j1 c hc).1
    rcases (sn_set h0 hl j j0).1 hj with rfl | hj
    · exact .inr (.inl ((hp _).2 (.inl rfl)))
    · rcases h.cls j j0 j1 hj c hc with h | h | ⟨e, h⟩
      · exact .inl ((sn_set h0 hl c hc0).2 (.inr h))
      · exact .inr (.inl ((hp _).2 (.inr h)))
      · rcases List.mem_cons.mp h with rfl | h
        · exact .inl ((sn_set h0 hl _ hc0).2 (.inl rfl))
        · exact .inr (.inr ⟨e, h⟩)
theorem Wl.pop (h : Wl n nx S seen pend y []) (x : Int) (hp : ∀ z, z ∈ pend → z = x ∨ z ∈ pend') (hp2 : ∀ z ∈ pend', z ∈ pend) : Wl n nx S seen pend' x (rd_L1 nx x) := by
  refine ⟨h.sl, h.frm, fun z hz => h.pnd z (hp2 z hz), fun j j0 j1 hj c hc => ?_⟩
  rcases h.cls j j0 j1 hj c hc with h | h | ⟨_, h⟩
  · exact .inl h
  · rcases hp j h with rfl | h
    · exact .inr (.inr ⟨rfl, hc⟩)
    · exact .inr (.inl h)
  · cases h
theorem Wl.done (h : Wl n nx S seen [] y []) (g : Gr n nx) (hS : ∀ s, S s → 0 ≤ s ∧ s < n ∧ sn seen s) (j : Int) (j0 : 0 ≤ j) (j1 : j < n) : sn seen j ↔ ∃ s, S s ∧ Rch nx s j := by
  refine ⟨h.frm j j0 j1, ?_⟩
  rintro ⟨s, hs, hr⟩
  obtain ⟨s0, s1, ss⟩ := hS s hs
  suffices hh : ∀ b, Rch nx s b → sn seen b from hh j hr
  intro b hb
  induction hb with
  | refl => exact ss
  | tail hb hc ih =>
    obtain ⟨b0, b1⟩ := hb.rng g s0 s1
    rcases h.cls _ b0 b1 ih _ hc with h | h | ⟨_, h⟩
    · exact h
    · cases h
    · cases h
end
theorem rdL_eq {nx : List (List Int)} {i : Nat} (h : i < nx.length) : rd_L1 nx (i : Int) = nx[i] := by
  unfold rd_L1
  rw [Int.toNat_natCast, List.getD_eq_getElem?_getD, List.getElem?_eq_getElem h]
  rfl
theorem sn_dec (seen : List Bool) (j : Int) : sn seen j ∨ ¬ sn seen j := by
  unfold sn
  cases rdOf false seen j <;> simp
end Go.Proofs.Ytpkigkmkolbiiaa.Q
