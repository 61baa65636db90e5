-- PACKED by pack.py of this repo: QParts
import Derived.Test.YtpkigkmkolbiiaaK16
section
namespace Go.Proofs.Ytpkigkmkolbiiaa.Q
open Go.RowKit Go.Proofs.YtpkigkmkolbiiaaW.PrintWords Go.Proofs.YtpkigkmkolbiiaaW.PrintMore Go.Proofs.Ytpkigkmkolbiiaa.P
set_option linter.unusedVariables false
section
variable {n : Nat} {nx : List (List Int)} {st : SrSt} {X : Int → Int → Prop}
theorem pair_len {α : Type} (f : α → Int) (hi : Int) : ∀ (l : List α) (lo : Int), l.Pairwise (fun a b => f a < f b) → (∀ a ∈ l, lo < f a ∧ f a ≤ hi) → lo ≤ hi → (l.length : Int) ≤ hi - lo := by
  intro l
  induction l with
  | nil => intro lo _ _ h; simp; omega
  | cons a l ih =>
    intro lo hp hb hlo
    rw [List.pairwise_cons] at hp
    have ha := hb a (by simp)
    have := ih (f a) hp.2 (fun b hb2 => ⟨hp.1 b hb2, (hb b (List.mem_cons_of_mem _ hb2)).2⟩) ha.2
    rw [List.length_cons]
    omega
theorem TI.olen (h : TI n nx st X) : (st.opn.length : Int) ≤ n := by
  have h1 := pair_len (fun v => rd st.order v) st.met st.opn 0 h.os (fun a ha => ⟨((h.op a).1 ha).2.2.1, (h.ob a (h.rg ha).1 (h.rg ha).2).2⟩) h.m0
  have := h.mc
  omega
theorem TI.clen (h : TI n nx st X) : (st.calls.length : Int) ≤ n := by
  have h1 := pair_len (fun c : Fr => rd st.order c.f0) st.met st.calls 0 h.cs (fun c hc => ⟨((h.op c.f0).1 (h.cm c hc).1).2.2.1, (h.ob c.f0 (h.crg hc).1 (h.crg hc).2).2⟩) h.m0
  have := h.mc
  omega
theorem row_eq {l : List Int} (hl : l ∈ nx) : ∃ i : Nat, i < nx.length ∧ rd_L1 nx (i : Int) = l := by
  obtain ⟨i, hi, rfl⟩ := List.getElem_of_mem hl
  refine ⟨i, hi, ?_⟩
  unfold rd_L1
  rw [Int.toNat_natCast, List.getD_eq_getElem?_getD, List.getElem?_eq_getElem hi]
  rfl
theorem TI.ok (g : Gr n nx) (hrow : ∀ l ∈ nx, l.length ≤ 1000000000000) (h : TI n nx st X) : SrOk nx n st := by
  have h1 := h.olen
  have h2 := h.clen
  have hn := g.le
  refine ⟨fun k hk => h.rg hk, by omega, by omega, fun u hu => ⟨(h.crg hu).1, (h.crg hu).2, (h.cm u hu).2.1, (h.cm u hu).2.2⟩, g.len, fun l hl => ⟨hrow l hl, fun k hk => ?_⟩⟩
  obtain ⟨i, hi, rfl⟩ := row_eq hl
  have hl := g.len
  exact g.ok (i : Int) (by omega) (by omega) k hk
def left (nx : List (List Int)) : List Fr → Nat
  | [] => 0
  | c :: l => ((rd_L1 nx c.f0).length - c.f1.toNat + 1) + left nx l
theorem left_append (l m : List Fr) : left nx (l ++ m) = left nx l + left nx m := by
  induction l with
  | nil => simp [left]
  | cons a l ih => simp only [List.cons_append, left, ih]; omega
theorem TI.step (g : Gr n nx) (hrow : ∀ l ∈ nx, l.length ≤ 1000000000000) (h : TI n nx st NoX) (hne : st.calls ≠ []) :
    ∃ st', search_goOn.f nx n st = some st' ∧ TI n nx st' NoX ∧ (st'.order.count 0 < st.order.count 0 ∨ st'.order.count 0 = st.order.count 0 ∧ left nx st'.calls < left nx st.calls) ∧ ∀ v : Int, 0 ≤ v → v < n → 0 < rd st.order v → 0 < rd st'.order v := by
  obtain ⟨ys, ⟨a, j⟩, hc⟩ := (G.snoc_cases st.calls).resolve_left hne
  have hca : (⟨a, j⟩ : Fr) ∈ st.calls := by rw [hc]; simp
  have hm := h.cm _ hca
  have har := h.crg hca
  simp only at hm har
  unfold search_goOn.f
  rw [if_pos (h.ok g hrow), hc, List.getLast?_concat, List.dropLast_concat]
  simp only []
  unfold search_goOn.go
  simp only []
  have erow : (nx.getD a.toNat []) = rd_L1 nx a := rfl
  rw [erow]
  by_cases c1 : j = ((rd_L1 nx a).length : Int)
  · rw [if_pos c1]
    have hml : left nx ys < left nx (ys ++ [⟨a, j⟩]) := by rw [left_append]; simp only [left]; omega
    have L := h.lv hc c1
    have hla : rd (search_leave.low ys st a) a = rd st.low a := low_at h L.sub a har.1 (fun c hh e => by have := L.lt c hh; rw [e] at this; omega)
    unfold search_leave.f
    rw [hla]
    by_cases c2 : rd st.low a = rd st.order a
    · rw [if_pos c2]
      obtain ⟨P, Q, hPQ, hQ, ht⟩ := h.pop g hc c1 c2
      have hl : st.opn.length = P.length + (Q.length + 1) := by rw [hPQ]; simp
      rw [if_pos (by omega)]
      have hb := back_is P a Q hQ (st.opn.length - 1) (by omega) (by rw [← hPQ]; omega)
      rw [← hPQ] at hb
      rw [hb]
      exact ⟨_, rfl, ht, .inr ⟨rfl, hml⟩, fun v _ _ hv => hv⟩
    · rw [if_neg c2]
      exact ⟨_, rfl, h.stay hc c1 c2, .inr ⟨rfl, hml⟩, fun v _ _ hv => hv⟩
  · rw [if_neg c1]
    have hj : j < ((rd_L1 nx a).length : Int) := by omega
    have hA := h.adv hc hj
    have hkm := rd_mem hm.2.1 hj
    have hkr := g.ok a har.1 har.2 _ hkm
    generalize rd (rd_L1 nx a) j = k at hA hkm hkr
    have hml : left nx (ys ++ [⟨a, j + 1⟩]) < left nx (ys ++ [⟨a, j⟩]) := by
      rw [left_append, left_append]
      simp only [left]
      have := hm.2.1
      omega
    by_cases c2 : rd st.order k = 0
    · rw [if_pos c2]
      refine ⟨_, rfl, hA.enter g hkr.1 hkr.2 c2 (fun v w hx => hx.2) (fun c hh => ?_), .inl ?_, fun v v0 v1 hv => ?_⟩
      · have hrc : Rch nx c.f0 a := by
          rcases mem_snoc.1 hh with hh | rfl
          · have hcs := h.cs
            rw [hc, List.pairwise_append] at hcs
            exact h.i1 a hm.1 c (by rw [hc]; exact List.mem_append_left _ hh) (Int.le_of_lt (hcs.2.2 c hh ⟨a, j⟩ (by simp)))
          · exact Rch.refl _
        exact hrc.tail hkm
      · have hcc := cnt0_set (l := st.order) (x := wrap64 (st.met + 1)) hkr.1 (by rw [h.lo]; exact hkr.2) c2 (by
          have := h.m0
          have := h.mc
          have := g.le
          rw [w64 (by omega) (by omega)]
          omega)
        unfold search_enter.st
        simp only
        omega
      · unfold search_enter.st
        simp only
        rw [rd_set hkr.1 (by rw [h.lo]; exact hkr.2) v0]
        split
        · have := h.m0
          have := h.mc
          have := g.le
          rw [w64 (by omega) (by omega)]
          omega
        · exact hv
    · rw [if_neg c2]
      have hko := h.ob k hkr.1 hkr.2
      by_cases c3 : rd st.part k < 0
      · rw [if_pos c3]
        have hkp : rd st.part k = -1 := by
          have := h.pn k hkr.1 hkr.2
          omega
        have hkop : k ∈ st.opn := (h.op k).2 ⟨hkr.1, hkr.2, by omega, hkp⟩
        exact ⟨_, rfl, hA.lower (ys := ys) (j := j + 1) rfl (fun v w hx => hx) hkop hkm, .inr ⟨rfl, hml⟩, fun v _ _ hv => hv⟩
      · rw [if_neg c3]
        exact ⟨_, rfl, hA.known (fun v w hx => hx) (by show 0 < rd st.order k; omega) (by show 0 ≤ rd st.part k; omega), .inr ⟨rfl, hml⟩, fun v _ _ hv => hv⟩
theorem drain_is (g : Gr n nx) (hrow : ∀ l ∈ nx, l.length ≤ 1000000000000) : ∀ (Z M : Nat) (st : SrSt), st.order.count 0 ≤ Z → left nx st.calls ≤ M → TI n nx st NoX →
    ∃ st', (∃ K, ∀ k, K ≤ k → scc_Parts.drain k nx n st = some st') ∧ TI n nx st' NoX ∧ st'.calls = [] ∧ ∀ v : Int, 0 ≤ v → v < n → 0 < rd st.order v → 0 < rd st'.order v := by
  intro Z
  induction Z with
  | zero =>
    intro M
    induction M with
    | zero =>
      intro st hZ hM h
      have hc : st.calls = [] := by
        rcases hh : st.calls with _ | ⟨c, l⟩
        · rfl
        · rw [hh] at hM; simp [left] at hM
      exact ⟨st, ⟨1, fun k hk => by obtain ⟨k, rfl⟩ : ∃ m, k = m + 1 := ⟨k - 1, by omega⟩; unfold scc_Parts.drain; rw [if_pos (by rw [hc]; rfl)]⟩, h, hc, fun v _ _ hv => hv⟩
    | succ M ih =>
      intro st hZ hM h
      by_cases hc : st.calls = []
      · exact ⟨st, ⟨1, fun k hk => by obtain ⟨k, rfl⟩ : ∃ m, k = m + 1 := ⟨k - 1, by omega⟩; unfold scc_Parts.drain; rw [if_pos (by rw [hc]; rfl)]⟩, h, hc, fun v _ _ hv => hv⟩
      · obtain ⟨s1, h1, h2, h3, h4⟩ := h.step g hrow hc
        obtain ⟨s2, ⟨K, hK⟩, q2, q3, q4⟩ := ih s1 (by omega) (by omega) h2
        exact ⟨s2, ⟨K + 1, fun k hk => by obtain ⟨k, rfl⟩ : ∃ m, k = m + 1 := ⟨k - 1, by omega⟩; unfold scc_Parts.drain; rw [if_neg (fun e => hc (List.length_eq_zero_iff.1 e)), h1, Option.bind_some]; exact hK k (by omega)⟩, q2, q3, fun v v0 v1 hv => q4 v v0 v1 (h4 v v0 v1 hv)⟩
  | succ Z ihZ =>
    intro M
    induction M with
    | zero =>
      intro st hZ hM h
      have hc : st.calls = [] := by
        rcases hh : st.calls with _ | ⟨c, l⟩
        · rfl
        · rw [hh] at hM; simp [left] at hM
      exact ⟨st, ⟨1, fun k hk => by obtain ⟨k, rfl⟩ : ∃ m, k = m + 1 := ⟨k - 1, by omega⟩; unfold scc_Parts.drain; rw [if_pos (by rw [hc]; rfl)]⟩, h, hc, fun v _ _ hv => hv⟩
    | succ M ih =>
      intro st hZ hM h
      by_cases hc : st.calls = []
      · exact ⟨st, ⟨1, fun k hk => by obtain ⟨k, rfl⟩ : ∃ m, k = m + 1 := ⟨k - 1, by omega⟩; unfold scc_Parts.drain; rw [if_pos (by rw [hc]; rfl)]⟩, h, hc, fun v _ _ hv => hv⟩
      · obtain ⟨s1, h1, h2, h3, h4⟩ := h.step g hrow hc
        have hgo : ∃ st', (∃ K, ∀ k, K ≤ k → scc_Parts.drain k nx n s1 = some st') ∧ TI n nx st' NoX ∧ st'.calls = [] ∧ ∀ v : Int, 0 ≤ v → v < n → 0 < rd s1.order v → 0 < rd st'.order v := by
          rcases h3 with h3 | h3
          · exact ihZ (left nx s1.calls) s1 (by omega) (Nat.le_refl _) h2
          · exact ih s1 (by omega) (by omega) h2
        obtain ⟨s2, ⟨K, hK⟩, q2, q3, q4⟩ := hgo
        exact ⟨s2, ⟨K + 1, fun k hk => by obtain ⟨k, rfl⟩ : ∃ m, k = m + 1 := ⟨k - 1, by omega⟩; unfold scc_Parts.drain; rw [if_neg (fun e => hc (List.length_eq_zero_iff.1 e)), h1, Option.bind_some]; exact hK k (by omega)⟩, q2, q3, fun v v0 v1 hv => q4 v v0 v1 (h4 v v0 v1 hv)⟩
theorem outer_is (g : Gr n nx) (hrow : ∀ l ∈ nx, l.length ≤ 1000000000000) : ∀ (d i : Nat) (st : SrSt), i + d = n → TI n nx st NoX → st.calls = [] → (∀ v : Int, 0 ≤ v → v < i → 0 < rd st.order v) →
    ∃ st', (∃ K, ∀ k m, K ≤ k → K ≤ m → scc_Parts.outer k m nx n (i : Int) st = some st') ∧ TI n nx st' NoX ∧ st'.calls = [] ∧ ∀ v : Int, 0 ≤ v → v < n → 0 < rd st'.order v := by
  intro d
  induction d with
  | zero =>
    intro i st hi h hc hv
    refine ⟨st, ⟨1, fun k m hk _ => ?_⟩, h, hc, fun v v0 v1 => hv v v0 (by omega)⟩
    obtain ⟨k, rfl⟩ : ∃ m, k = m + 1 := ⟨k - 1, by omega⟩
    unfold scc_Parts.outer
    rw [if_neg (by omega)]
  | succ d ih =>
    intro i st hi h hc hv
    have hn := g.le
    have hgo : ∀ s1 : SrSt, TI n nx s1 NoX → (∀ v : Int, 0 ≤ v → v < i → 0 < rd s1.order v) → 0 < rd s1.order (i : Int) →
        ∃ st', (∃ K, ∀ k m, K ≤ k → K ≤ m → ((scc_Parts.drain m nx n s1).bind fun s => scc_Parts.outer k m nx n ((i : Int) + 1) s) = some st') ∧ TI n nx st' NoX ∧ st'.calls = [] ∧ ∀ v : Int, 0 ≤ v → v < n → 0 < rd st'.order v := by
      intro s1 hs1 hv1 hv2
      obtain ⟨s2, ⟨K1, hK1⟩, q2, q3, q4⟩ := drain_is g hrow _ _ s1 (Nat.le_refl _) (Nat.le_refl _) hs1
      obtain ⟨s3, ⟨K2, hK2⟩, p2, p3, p4⟩ := ih (i + 1) s2 (by omega) q2 q3 (fun v v0 v1 => by
        rcases (show v < (i : Int) ∨ (i : Int) ≤ v by omega) with e | e
        · exact q4 v v0 (by omega) (hv1 v v0 e)
        · obtain rfl : v = (i : Int) := by omega
          exact q4 _ v0 (by omega) hv2)
      refine ⟨s3, ⟨max K1 K2, fun k m hk hm => ?_⟩, p2, p3, p4⟩
      rw [hK1 m (by omega), Option.bind_some]
      exact hK2 k m (by omega) (by omega)
    by_cases c : rd st.order (i : Int) = 0
    · have hE := h.enter g (k := (i : Int)) (by omega) (by omega) c (fun v w hx => absurd hx id) (fun x hx => by rw [hc] at hx; exact absurd hx (by simp))
      have hw : wrap64 (st.met + 1) = st.met + 1 := by
        have := h.m0
        have := h.mc
        exact w64 (by omega) (by omega)
      obtain ⟨s3, ⟨K, hK⟩, p2, p3, p4⟩ := hgo _ hE (fun v v0 v1 => by
        unfold search_enter.st
        simp only
        rw [rd_set (by omega) (by rw [h.lo]; omega) v0, if_neg (by omega)]
        exact hv v v0 v1) (by
        unfold search_enter.st
        simp only
        rw [rd_set (by omega) (by rw [h.lo]; omega) (by omega), if_pos rfl, hw]
        have := h.m0
        omega)
      refine ⟨s3, ⟨K + 1, fun k m hk hm => ?_⟩, p2, p3, p4⟩
      obtain ⟨k, rfl⟩ : ∃ m, k = m + 1 := ⟨k - 1, by omega⟩
      unfold scc_Parts.outer
      have h1 := h.olen
      have h2 := h.clen
      rw [if_pos (by omega), if_pos (by omega), if_pos c, if_pos (by omega), if_pos (by omega)]
      exact hK k m (by omega) (by omega)
    · have ho := h.ob (i : Int) (by omega) (by omega)
      obtain ⟨s3, ⟨K, hK⟩, p2, p3, p4⟩ := hgo st h hv (by omega)
      refine ⟨s3, ⟨K + 1, fun k m hk hm => ?_⟩, p2, p3, p4⟩
      obtain ⟨k, rfl⟩ : ∃ m, k = m + 1 := ⟨k - 1, by omega⟩
      unfold scc_Parts.outer
      rw [if_pos (by omega), if_pos (by omega), if_neg c]
      exact hK k m (by omega) (by omega)
theorem rd_rep (n : Nat) (x : Int) (v : Int) (v0 : 0 ≤ v) (v1 : v < n) : rd (List.replicate n x) v = x := by
  have hv : v.toNat < (List.replicate n x).length := by rw [List.length_replicate]; omega
  unfold rd
  rw [List.getD_eq_getElem?_getD, List.getElem?_eq_getElem hv]
  simp
theorem TI.start : TI n nx (scc_Parts.st0 n) NoX := by
  unfold scc_Parts.st0
  refine ⟨by simp, by simp, by simp, by simp, by simp, fun v v0 v1 => by simp only; rw [rd_rep n 0 v v0 v1]; omega, fun v v0 v1 _ => by simp only; rw [rd_rep n _ v v0 v1], fun v v0 v1 => by simp only; rw [rd_rep n _ v v0 v1]; simp, fun v => ?_, by simp, by simp, by simp, by simp, by simp, by simp, by simp, by simp, by simp, fun v v0 v1 hv => ?_, fun v v0 v1 hv => ?_, fun u w u0 u1 w0 w1 hu => ?_⟩
  · simp only
    constructor
    · intro hh; exact absurd hh (by simp)
    · rintro ⟨v0, v1, h, _⟩
      rw [rd_rep n 0 v v0 v1] at h
      omega
  · simp only at hv
    rw [rd_rep n _ v v0 v1] at hv
    omega
  · simp only at hv
    rw [rd_rep n _ v v0 v1] at hv
    omega
  · simp only at hu
    rw [rd_rep n _ u u0 u1] at hu
    omega
structure Pt (n : Nat) (nx : List (List Int)) (part : List Int) : Prop where
  len : part.length = n
  lo : ∀ u : Int, 0 ≤ u → u < n → 0 ≤ rd part u
  hi : ∀ u : Int, 0 ≤ u → u < n → rd part u ≤ u
  id_ : ∀ u : Int, 0 ≤ u → u < n → rd part (rd part u) = rd part u
  iff : ∀ u w : Int, 0 ≤ u → u < n → 0 ≤ w → w < n → (rd part u = rd part w ↔ Rch nx u w ∧ Rch nx w u)
theorem parts_is {sp : List S45} {f : Int} {ms : List Int} {many : Int} (g : Gs n sp f nx ms many) (hrow : ∀ l ∈ nx, l.length ≤ 1000000000000) :
    ∃ part, Ev (fun k => scc_Parts.f k sp f nx ms many) (part, 0) ∧ Pt n nx part := by
  have hn := g.gr.le
  obtain ⟨st, ⟨K, hK⟩, h, hc, hv⟩ := outer_is g.gr hrow n 0 (scc_Parts.st0 n) (by omega) TI.start rfl (fun v v0 v1 => by omega)
  have hd : ∀ v : Int, 0 ≤ v → v < n → 0 ≤ rd st.part v := by
    intro v v0 v1
    rcases h.pn v v0 v1 with e | e
    · obtain ⟨c, hcc, _⟩ := h.i2 v ((h.op v).2 ⟨v0, v1, hv v v0 v1, e⟩)
      rw [hc] at hcc
      exact absurd hcc (by simp)
    · exact e
  refine ⟨st.part, ?_, ⟨h.lp, hd, fun u u0 u1 => (h.d2 u u0 u1 (hd u u0 u1)).1, fun u u0 u1 => (h.d2 u u0 u1 (hd u u0 u1)).2.1, fun u w u0 u1 w0 w1 => ⟨fun e => ?_, fun e => h.d3 u w u0 u1 w0 w1 (hd u u0 u1) (hd w w0 w1) e.1 e.2⟩⟩⟩
  · obtain ⟨Kc, hKc⟩ := check_is g
    refine ⟨max K Kc, fun k hk => ?_⟩
    show scc_Parts.f k sp f nx ms many = _
    unfold scc_Parts.f
    simp only at hKc
    rw [hKc k (by omega), Option.bind_some, if_pos rfl, if_pos (by rw [g.sp]; omega), g.sp]
    rw [show (0 : Int) = ((0 : Nat) : Int) from rfl, hK k k (by omega) (by omega)]
    rfl
  · have q1 := h.d2 u u0 u1 (hd u u0 u1)
    have q2 := h.d2 w w0 w1 (hd w w0 w1)
    rw [← e] at q2
    exact ⟨q1.2.2.1.trans q2.2.2.2, q2.2.2.1.trans q1.2.2.2⟩
end
end Go.Proofs.Ytpkigkmkolbiiaa.Q
end
