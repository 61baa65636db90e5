/- The plain law of FairMore: more steps, and more sets that are met, leave a fair part where there is one. -/
import Derived.Test.YtpkigkmkolbiiaaKLFairMore
import Derived.Test.YtpkigkmkolbiiaaK15
namespace Go.Proofs.Ytpkigkmkolbiiaa.Q
open Go.RowKit Go.Proofs.YtpkigkmkolbiiaaW.PrintWords Go.Proofs.YtpkigkmkolbiiaaW.PrintMore Go.Proofs.Ytpkigkmkolbiiaa.P
set_option linter.unusedVariables false
namespace More
section
variable {n : Nat} {sp : List S45} {f : Int} {nx : List (List Int)} {ms : List Int} {many x y z : Int}
theorem row_set {i u : Int} {l : List Int} (h0 : 0 ≤ i) (h1 : i < nx.length) (hu : 0 ≤ u) : rd_L1 (nx.set i.toNat l) u = if u = i then l else rd_L1 nx u := by
  unfold rd_L1
  rw [List.getD_eq_getElem?_getD, List.getD_eq_getElem?_getD, List.getElem?_set]
  by_cases c : u = i
  · subst c
    rw [if_pos rfl, if_pos rfl, if_pos (by omega)]
    rfl
  · rw [if_neg (by omega), if_neg c]
theorem rd_set {i u v : Int} (h0 : 0 ≤ i) (h1 : i < ms.length) (hu : 0 ≤ u) : rd (ms.set i.toNat v) u = if u = i then v else rd ms u := by
  unfold rd
  rw [List.getD_eq_getElem?_getD, List.getD_eq_getElem?_getD, List.getElem?_set]
  by_cases c : u = i
  · subst c
    rw [if_pos rfl, if_pos rfl, if_pos (by omega)]
    rfl
  · rw [if_neg (by omega), if_neg c]
theorem rch (g : Gr n nx) (x0 : 0 ≤ x) (x1 : x < nx.length) {a b : Int} (a0 : 0 ≤ a) (a1 : a < n) (h : Rch nx a b) : Rch (nx.set x.toNat (rd_L1 nx x ++ [y])) a b := by
  have key : ∀ a b, Rch nx a b → 0 ≤ a → a < n → Rch (nx.set x.toNat (rd_L1 nx x ++ [y])) a b := by
    intro a b h
    induction h with
    | refl => intro _ _; exact Rch.refl _
    | tail hb hc ih =>
      intro h0 h1
      refine (ih h0 h1).tail ?_
      have hr := hb.rng g h0 h1
      rw [row_set x0 x1 hr.1]
      split
      · rename_i e
        rw [e] at hc
        exact List.mem_append_left _ hc
      · exact hc
  exact key a b h a0 a1
theorem or_is {p q : Int} {m : Nat} (hm : m ≤ 6) (p0 : 0 ≤ p) (p1 : p < ((2 ^ m : Nat) : Int)) (q0 : 0 ≤ q) (q1 : q < ((2 ^ m : Nat) : Int)) : Go.bits .or .i64 p q = ((p.toNat ||| q.toNat : Nat) : Int) ∧ p.toNat ||| q.toNat < 2 ^ m := by
  have h64 := pow_le hm
  have e1 : p = ((p.toNat : Nat) : Int) := (Int.toNat_of_nonneg p0).symm
  have e2 : q = ((q.toNat : Nat) : Int) := (Int.toNat_of_nonneg q0).symm
  have l1 : p.toNat < 2 ^ m := by omega
  have l2 : q.toNat < 2 ^ m := by omega
  refine ⟨?_, or_lt l1 l2⟩
  have h := or_nat p.toNat q.toNat (by omega) (by omega)
  rw [← e1, ← e2] at h
  exact h
theorem graph (g : Gs n sp f nx ms many) (x0 : 0 ≤ x) (x1 : x < n) (y0 : 0 ≤ y) (y1 : y < n) (z0 : 0 ≤ z) (z1 : z < shl .i64 1 many) (hr : (rd_L1 nx x).length ≤ 1000) :
    Gs n sp f (nx.set x.toNat (rd_L1 nx x ++ [y])) (ms.set x.toNat (Go.bits .or .i64 (rd ms x) z)) many := by
  have hnl := g.gr.len
  have hml := g.ml
  have hsh := shl_pow g.m0 g.m1
  have hmm : many.toNat ≤ 6 := by have := g.m1; omega
  have hx := g.mr x x0 x1
  rw [hsh] at hx z1
  obtain ⟨o1, o2⟩ := or_is hmm hx.1 hx.2 z0 z1
  refine ⟨⟨by rw [List.length_set]; exact hnl, g.gr.le, fun a a0 a1 b hb => ?_, fun a => ?_⟩, g.sp, g.f0, g.f1, by rw [List.length_set]; exact hml, g.m0, g.m1, fun i i0 i1 => ?_⟩
  · rw [row_set x0 (by omega) a0] at hb
    split at hb
    · rcases List.mem_append.1 hb with hb | hb
      · exact g.gr.ok x x0 x1 b hb
      · obtain rfl := List.mem_singleton.1 hb
        exact ⟨y0, y1⟩
    · exact g.gr.ok a a0 a1 b hb
  · have h2 := g.gr.len2 a
    by_cases ha : 0 ≤ a
    · rw [row_set x0 (by omega) ha]
      split
      · rw [List.length_append, List.length_singleton]; omega
      · exact h2
    · have e : ∀ l : List (List Int), rd_L1 l a = rd_L1 l 0 := fun l => by unfold rd_L1; rw [show a.toNat = (0 : Int).toNat by omega]
      rw [e, row_set x0 (by omega) (Int.le_refl 0)]
      split
      · rw [List.length_append, List.length_singleton]; omega
      · exact g.gr.len2 0
  · rw [rd_set x0 (by omega) i0, hsh]
    split
    · rw [o1]
      exact ⟨Int.natCast_nonneg _, Int.ofNat_lt.2 o2⟩
    · have := g.mr i i0 i1
      rw [hsh] at this
      exact this
theorem gf (g : Gs n sp f nx ms many) (x0 : 0 ≤ x) (x1 : x < n) (z0 : 0 ≤ z) (z1 : z < shl .i64 1 many) {j : Int} (h : GF n nx f ms many j) :
    GF n (nx.set x.toNat (rd_L1 nx x ++ [y])) f (ms.set x.toNat (Go.bits .or .i64 (rd ms x) z)) many j := by
  have hnl := g.gr.len
  have hml := g.ml
  have hx1 : x < nx.length := by omega
  have hsh := shl_pow g.m0 g.m1
  have hmm : many.toNat ≤ 6 := by have := g.m1; omega
  have hx := g.mr x x0 x1
  rw [hsh] at hx z1
  obtain ⟨o1, o2⟩ := or_is hmm hx.1 hx.2 z0 z1
  have hrow : ∀ u : Int, 0 ≤ u → ∀ k ∈ rd_L1 nx u, k ∈ rd_L1 (nx.set x.toNat (rd_L1 nx x ++ [y])) u := fun u u0 k hk => by
    rw [row_set x0 hx1 u0]
    split
    · rename_i e
      rw [e] at hk
      exact List.mem_append_left _ hk
    · exact hk
  refine ⟨h.r0, h.r1, ?_, ?_, fun b hb => ?_⟩
  · obtain ⟨s, hs, hr⟩ := h.seen
    have := g.f1
    exact ⟨s, hs, rch g.gr x0 hx1 hs.1 (by omega) hr⟩
  · obtain ⟨k, hk, hr⟩ := h.loop
    have hkr := g.gr.ok j h.r0 h.r1 k hk
    exact ⟨k, hrow j h.r0 k hk, rch g.gr x0 hx1 hkr.1 hkr.2 hr⟩
  · obtain ⟨u, h1, h2, h3⟩ := h.sets b hb
    have hu := h1.rng g.gr h.r0 h.r1
    refine ⟨u, rch g.gr x0 hx1 h.r0 h.r1 h1, rch g.gr x0 hx1 hu.1 hu.2 h2, ?_⟩
    unfold bitOf at h3 ⊢
    rw [rd_set x0 (by omega) hu.1]
    split
    · rename_i e
      rw [e] at h3
      rw [o1, Int.toNat_natCast, Nat.testBit_or, h3, Bool.true_or]
    · exact h3
end
end More
open More in
theorem FairMore : P.foretellkeep_FairMore.Pur := by
  intro rows sets ft mt a b bits ⟨⟨hrl, hrows⟩, ⟨hsl, hsets⟩, hf, hm⟩ ha hb hc
  obtain ⟨sp, f, nx, ms, many, he, g, _, _, h6⟩ := graph_is6 rows sets ft mt hrows hrl hsets hf hm
  generalize min rows.length 20 = n at g
  have hn := g.gr.le
  have hsp := g.sp
  have hnl := g.gr.len
  have hml := g.ml
  have hrow : ∀ l ∈ nx, l.length ≤ 1000000000000 := fun l hl => by have := h6 l hl; omega
  refine Ev.rounds ?_
  unfold foretellkeep_FairMore.f
  refine Ev.bind he ?_
  unfold foretellkeep_FairMore.go
  by_cases c0 : (sp.length : Int) = 0
  · simp only [if_pos c0]
    rcases Fair_sem g hrow with ⟨i, _, hi, _⟩ | ⟨e, _⟩
    · have := hi.r0
      have := hi.r1
      omega
    · exact Ev.bind e (Ev.now _)
  · simp only [if_neg c0]
    have hnp : 0 < (n : Int) := by omega
    have hsl2 : (sp.length : Int) = (n : Int) := by omega
    have hs := shl_pow g.m0 g.m1
    have hpos : 0 < shl .i64 1 many := by rw [hs]; have := Nat.two_pow_pos many.toNat; omega
    have p1 := picked_is (n := a) (m := (n : Int)) ha hnp
    have p2 := picked_is (n := b) (m := (n : Int)) hb hnp
    have p3 := picked_is (n := bits) (m := shl .i64 1 many) hc hpos
    have x0 := pk_lo a hnp
    have x1 := pk_hi a hnp
    have y0 := pk_lo b hnp
    have y1 := pk_hi b hnp
    have z0 := pk_lo bits hpos
    have z1 := pk_hi bits hpos
    have hr6 : (rd_L1 nx (pk a n)).length ≤ 6 := by
      have e := rdL_eq (nx := nx) (i := (pk a n).toNat) (by omega)
      rw [Int.toNat_of_nonneg x0] at e
      rw [e]
      exact h6 _ (List.getElem_mem _)
    have g2 := graph (y := pk b n) g x0 x1 y0 y1 z0 z1 (by omega)
    have hrow2 : ∀ l ∈ nx.set (pk a n).toNat (rd_L1 nx (pk a n) ++ [pk b n]), l.length ≤ 1000000000000 := fun l hl => by
      rcases List.mem_or_eq_of_mem_set hl with hl | rfl
      · exact hrow l hl
      · rw [List.length_append, List.length_singleton]; omega
    simp only [hsl2, p1, p2, p3, Option.bind_some, if_pos x0, if_pos (show pk a n < (nx.length : Int) by omega), if_pos (show pk a n < (ms.length : Int) by omega), if_pos (show (rd_L1 nx (pk a n)).length ≤ 1000 by omega), if_pos g.m0]
    rcases Fair_sem g hrow with ⟨i, e, hi, _⟩ | ⟨e, _⟩
    · rcases Fair_sem g2 hrow2 with ⟨i2, e2, _, _⟩ | ⟨_, hno⟩
      · exact Ev.bind e (Ev.bind e2 (Ev.now _))
      · exact absurd (gf g x0 x1 z0 z1 hi) (hno i)
    · rcases Fair_sem g2 hrow2 with ⟨i2, e2, _, _⟩ | ⟨e2, _⟩
      · exact Ev.bind e (Ev.bind e2 (Ev.now _))
      · exact Ev.bind e (Ev.bind e2 (Ev.now _))
end Go.Proofs.Ytpkigkmkolbiiaa.Q
