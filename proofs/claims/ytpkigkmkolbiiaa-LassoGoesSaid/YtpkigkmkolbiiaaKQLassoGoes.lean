/- The plain law of LassoGoes: a lasso goes through the graph and meets each set; there is one just if some part that is reached is fair. -/
import Derived.Test.YtpkigkmkolbiiaaKLLassoGoes
import Derived.Test.YtpkigkmkolbiiaaK20
import Derived.Test.YtpkigkmkolbiiaaK3
namespace Go.Proofs.Ytpkigkmkolbiiaa.Q
open Go.RowKit Go.Proofs.YtpkigkmkolbiiaaW.PrintWords Go.Proofs.YtpkigkmkolbiiaaW.PrintMore Go.Proofs.Ytpkigkmkolbiiaa.P
set_option linter.unusedVariables false
theorem leads_is {n : Nat} {sp : List S45} {f : Int} {nx : List (List Int)} {ms : List Int} {many : Int} (g : Gs n sp f nx ms many) (hrow : ∀ l ∈ nx, l.length ≤ 1000000) {a b : Int} (a0 : 0 ≤ a) (a1 : a < n) (h : b ∈ rd_L1 nx a) :
    Ev (fun k => foretellkeep_leads.f k sp f nx ms many a b) true := by
  have hnl := g.gr.len
  have hl : (rd_L1 nx a).length ≤ 1000000000 := by
    have e := rdL_eq (nx := nx) (i := a.toNat) (by omega)
    rw [Int.toNat_of_nonneg a0] at e
    rw [e]
    have := hrow _ (List.getElem_mem (l := nx) (n := a.toNat) (by omega))
    omega
  unfold foretellkeep_leads.f
  simp only [if_pos (show a ≥ 0 by omega), if_pos (show a < (nx.length : Int) by omega)]
  have hh := has_is (rd_L1 nx a) b hl
  rw [decide_eq_true h] at hh
  exact Ev.bind hh (Ev.now _)
section
variable {n : Nat} {sp : List S45} {f : Int} {nx : List (List Int)} {ms : List Int} {many : Int} {stem loop all : List Int}
theorem round_is (g : Gs n sp f nx ms many) (hrow : ∀ l ∈ nx, l.length ≤ 1000000) (hal : all.length ≤ 1000000) (hrng : ∀ i : Nat, i < all.length → 0 ≤ rd all (i : Int) ∧ rd all (i : Int) < (n : Int)) {i N : Nat} (hi : i < all.length) (hN : N < 64) {to_ : Int} (h : to_ ∈ rd_L1 nx (rd all (i : Int)))
    (h1 : (i : Int) ≥ (stem.length : Int) → Ev (fun k => foretellkeep_LassoGoes.l0 k all (Go.bits .or .i64 (N : Int) (rd ms (rd all (i : Int)))) ((i + 1 : Nat) : Int) sp f nx ms many stem loop) true)
    (h2 : ¬ (i : Int) ≥ (stem.length : Int) → Ev (fun k => foretellkeep_LassoGoes.l0 k all (N : Int) ((i + 1 : Nat) : Int) sp f nx ms many stem loop) true) :
    Ev (fun k => foretellkeep_LassoGoes.j3 k all (N : Int) (i : Int) to_ sp f nx ms many stem loop) true := by
  obtain ⟨u0, u1⟩ := hrng i hi
  have hml := g.ml
  have e3 : wrap64 ((i : Int) + 1) = ((i + 1 : Nat) : Int) := w64 (by omega) (by omega)
  obtain ⟨K1, hl⟩ := leads_is g hrow u0 u1 h
  have c0 : (0 : Int) ≤ (i : Int) := by omega
  have c1 : (i : Int) < (all.length : Int) := by omega
  have c2 : rd all (i : Int) < (ms.length : Int) := by omega
  by_cases c : (i : Int) ≥ (stem.length : Int)
  · obtain ⟨K2, h2⟩ := h1 c
    refine ⟨max K1 K2 + 1, fun k hk => ?_⟩
    obtain ⟨k, rfl⟩ : ∃ q, k = q + 1 := ⟨k - 1, by omega⟩
    have hl := hl k (by omega)
    simp only [] at hl
    have h2 := h2 k (by omega)
    simp only [] at h2
    simp only [foretellkeep_LassoGoes.j3]
    rw [if_pos c0, if_pos c1, hl, Option.bind_some, if_pos rfl, if_pos c, if_pos u0, if_pos c2, e3]
    exact h2
  · obtain ⟨K2, h2⟩ := h2 c
    refine ⟨max K1 K2 + 1, fun k hk => ?_⟩
    obtain ⟨k, rfl⟩ : ∃ q, k = q + 1 := ⟨k - 1, by omega⟩
    have hl := hl k (by omega)
    simp only [] at hl
    have h2 := h2 k (by omega)
    simp only [] at h2
    simp only [foretellkeep_LassoGoes.j3]
    rw [if_pos c0, if_pos c1, hl, Option.bind_some, if_pos rfl, if_neg c, e3]
    exact h2
theorem all_is (g : Gs n sp f nx ms many) (hrow : ∀ l ∈ nx, l.length ≤ 1000000) (hal : all.length ≤ 1000000) (hrng : ∀ i : Nat, i < all.length → 0 ≤ rd all (i : Int) ∧ rd all (i : Int) < (n : Int)) (hlp : 0 < loop.length)
    (hto : ∀ i : Nat, i < all.length → (if i + 1 < all.length then rd all ((i + 1 : Nat) : Int) else rd loop 0) ∈ rd_L1 nx (rd all (i : Int))) (hsets : ∀ b : Nat, (b : Int) < many → ∃ u ∈ all.drop stem.length, bitOf ms u b) :
    ∀ (d i N : Nat), i + d = all.length → N < 2 ^ many.toNat → (∀ b, N.testBit b = true ↔ ∃ u ∈ (all.take i).drop stem.length, bitOf ms u b) →
      Ev (fun k => foretellkeep_LassoGoes.l0 k all (N : Int) (i : Int) sp f nx ms many stem loop) true := by
  have hm0 := g.m0
  have hm1 := g.m1
  have h64 := pow_le (m := many.toNat) (by omega)
  have hml := g.ml
  have hsh := shl_pow hm0 hm1
  intro d
  induction d with
  | zero =>
    intro i N hi hN hb
    have hall2 : N = 2 ^ many.toNat - 1 := (all_bits hN).2 (fun b hb' => by
      rw [hb b, List.take_of_length_le (by omega)]
      exact hsets b (by omega))
    refine Ev.step (f := fun _ => some true) (fun k => ?_) (Ev.now _)
    simp only [foretellkeep_LassoGoes.l0, hsh]
    generalize 2 ^ many.toNat = M at hN hall2 h64
    rw [if_neg (by omega), if_pos hm0, w64 (by omega) (by omega), beq_iff_eq.mpr (show (N : Int) = (M : Int) - 1 by omega)]
  | succ d ih =>
    intro i N hi hN hb
    have hil : i < all.length := by omega
    have hN64 : N < 64 := by omega
    obtain ⟨u0, u1⟩ := hrng i hil
    have htk : all.take (i + 1) = all.take i ++ [rd all (i : Int)] := by
      rw [rd_eq hil]
      exact List.take_succ_eq_append_getElem hil
    have htl : (all.take i).length = i := by rw [List.length_take]; omega
    have hnext : ∀ to_ : Int, to_ = (if i + 1 < all.length then rd all ((i + 1 : Nat) : Int) else rd loop 0) → Ev (fun k => foretellkeep_LassoGoes.j3 k all (N : Int) (i : Int) to_ sp f nx ms many stem loop) true := by
      intro to_ hto2
      refine round_is g hrow hal hrng hil hN64 (by rw [hto2]; exact hto i hil) (fun c => ?_) (fun c => ?_)
      · have hmr := g.mr _ u0 u1
        rw [hsh] at hmr
        have em : rd ms (rd all (i : Int)) = (((rd ms (rd all (i : Int))).toNat : Nat) : Int) := by omega
        have hmN : (rd ms (rd all (i : Int))).toNat < 2 ^ many.toNat := by omega
        have hor := or_nat N (rd ms (rd all (i : Int))).toNat hN64 (Nat.lt_of_lt_of_le hmN h64)
        rw [← em] at hor
        rw [hor]
        refine ih (i + 1) _ (by omega) (or_lt hN hmN) (fun b => ?_)
        rw [Nat.testBit_or, Bool.or_eq_true, hb b, htk, List.drop_append_of_le_length (by omega)]
        constructor
        · rintro (⟨u, hu, h⟩ | h)
          · exact ⟨u, List.mem_append_left _ hu, h⟩
          · exact ⟨_, List.mem_append_right _ List.mem_cons_self, h⟩
        · rintro ⟨u, hu, h⟩
          rcases List.mem_append.1 hu with hu | hu
          · exact .inl ⟨u, hu, h⟩
          · obtain rfl := List.mem_singleton.1 hu
            exact .inr h
      · refine ih (i + 1) N (by omega) hN (fun b => ?_)
        rw [hb b, List.drop_eq_nil_of_le (by omega), List.drop_eq_nil_of_le (by rw [htk, List.length_append, List.length_singleton]; omega)]
    clear ih hb hsets
    have c1 : (i : Int) < (all.length : Int) := Int.ofNat_lt.2 hil
    have c2 : (0 : Int) < (loop.length : Int) := Int.ofNat_lt.2 hlp
    have c4 : (0 : Int) ≤ ((i + 1 : Nat) : Int) := Int.natCast_nonneg _
    have e3 : wrap64 ((i : Int) + 1) = ((i + 1 : Nat) : Int) := w64 (by clear h64 hN hsh; omega) (by clear h64 hN hsh; omega)
    by_cases c : i + 1 < all.length
    · have c3 : ((i + 1 : Nat) : Int) < (all.length : Int) := Int.ofNat_lt.2 c
      obtain ⟨K, hK⟩ := hnext (rd all ((i + 1 : Nat) : Int)) (by rw [if_pos c])
      refine ⟨K + 1, fun k hk => ?_⟩
      obtain ⟨k, rfl⟩ : ∃ q, k = q + 1 := ⟨k - 1, by omega⟩
      simp only [foretellkeep_LassoGoes.l0, e3]
      rw [if_pos c1, if_pos c2, if_pos c3, if_pos c4]
      have h := hK k (by omega)
      simp only [] at h
      exact h
    · have c3 : ¬ ((i + 1 : Nat) : Int) < (all.length : Int) := fun h => c (Int.ofNat_lt.1 h)
      obtain ⟨K, hK⟩ := hnext (rd loop 0) (by rw [if_neg c])
      refine ⟨K + 1, fun k hk => ?_⟩
      obtain ⟨k, rfl⟩ : ∃ q, k = q + 1 := ⟨k - 1, by omega⟩
      simp only [foretellkeep_LassoGoes.l0, e3]
      rw [if_pos c1, if_pos c2, if_neg c3]
      have h := hK k (by omega)
      simp only [] at h
      exact h
theorem chain_at {home : Int} : ∀ (l : List Int) (a : Int), Chain nx a (l ++ [home]) → ∀ i : Nat, i < (a :: l).length → (if i + 1 < (a :: l).length then rd (a :: l) ((i + 1 : Nat) : Int) else home) ∈ rd_L1 nx (rd (a :: l) (i : Int)) := by
  intro l
  induction l with
  | nil =>
    intro a h i hi
    obtain rfl : i = 0 := by simpa using hi
    exact h.1
  | cons b l ih =>
    intro a h i hi
    cases i with
    | zero =>
      rw [if_pos (by simp)]
      exact h.1
    | succ i =>
      have := ih b h.2 i (by simpa using hi)
      have e1 : rd (a :: b :: l) ((i + 1 : Nat) : Int) = rd (b :: l) (i : Int) := by
        unfold rd
        rw [Int.toNat_natCast, Int.toNat_natCast]
        rfl
      have e2 : rd (a :: b :: l) ((i + 1 + 1 : Nat) : Int) = rd (b :: l) ((i + 1 : Nat) : Int) := by
        unfold rd
        rw [Int.toNat_natCast, Int.toNat_natCast]
        rfl
      rw [e1, e2]
      by_cases c : i + 1 < (b :: l).length
      · rw [if_pos c] at this
        rw [if_pos (by simpa using c)]
        exact this
      · rw [if_neg c] at this
        rw [if_neg (by simpa using c)]
        exact this
end
theorem LassoGoes : P.foretellkeep_LassoGoes.Pur := by
  intro rows sets ft mt ⟨⟨hrl, hrows⟩, ⟨hsl, hsets⟩, hf, hm⟩
  obtain ⟨sp, f, nx, ms, many, he, g, _, _, h6⟩ := graph_is6 rows sets ft mt hrows hrl hsets hf hm
  generalize min rows.length 20 = n at g
  have hrow : ∀ l ∈ nx, l.length ≤ 1000000 := fun l hl => by have := h6 l hl; omega
  refine Ev.rounds ?_
  unfold foretellkeep_LassoGoes.f
  refine Ev.bind he ?_
  rcases Lasso_sem g hrow with ⟨home, stem, loop, e1, e2, L⟩ | ⟨e1, e2, _⟩
  · refine Ev.bind e1 (Ev.bind e2 ?_)
    obtain ⟨s, tt, hall, hs, hc⟩ := L.run
    obtain ⟨lt, hlt⟩ := L.lp
    have hlen := L.len
    have hll : loop.length = lt.length + 1 := by rw [hlt]; rfl
    have hal : stem.length + loop.length = (stem ++ loop).length := by rw [List.length_append]
    have hr0 : rd (stem ++ loop) 0 = s := by rw [hall]; rfl
    have hrl0 : rd loop 0 = home := by rw [hlt]; rfl
    have hch := chain_at tt s hc
    rw [← hall, ← hrl0] at hch
    have hne : 0 < (stem ++ loop).length := by omega
    have hin := L.inn
    have hdl : (stem ++ loop).drop stem.length = loop := List.drop_left
    have hl0 := all_is (stem := stem) (loop := loop) (all := stem ++ loop) g hrow (by omega) (fun i hi => by rw [rd_eq hi]; exact hin _ (List.getElem_mem hi)) (by omega) hch (by rw [hdl]; exact L.sets) (stem ++ loop).length 0 0 (by omega) (Nat.two_pow_pos _) (fun b => by simp)
    generalize hallq : stem ++ loop = all at hal hr0 hl0 hne hin hdl hch
    obtain ⟨K, hK⟩ := hl0
    refine ⟨K + 2, fun k hk => ?_⟩
    obtain ⟨k, rfl⟩ : ∃ q, k = q + 2 := ⟨k - 2, by omega⟩
    have h := hK k (by omega)
    simp only [] at h
    have hne2 : ((0 : Int) != 0) = false := rfl
    have hd : decide (s ≥ f) = false := decide_eq_false (by omega)
    have q1 : ([] : List Int).length + stem.length < 17592186044416 := by simp only [List.length_nil]; omega
    have q2 : stem.length + loop.length < 17592186044416 := by omega
    have q3 : ¬ (loop.length : Int) = 0 := by omega
    have q4 : (0 : Int) < (all.length : Int) := by omega
    have q5 : ¬ s < 0 := by omega
    simp only [if_true, hne2]
    simp only [foretellkeep_LassoGoes.j0]
    rw [if_neg (by decide), if_pos q1, Option.bind_some]
    simp only [List.nil_append, hallq]
    rw [if_pos q2, Option.bind_some, if_neg q3, if_pos q4, hr0, if_neg q5, hd]
    simp only [foretellkeep_LassoGoes.j1]
    rw [if_neg (by decide)]
    exact h
  · refine Ev.bind e1 (Ev.bind e2 ?_)
    refine Ev.step (f := fun _ => some true) (fun k => ?_) (Ev.now _)
    rfl
end Go.Proofs.Ytpkigkmkolbiiaa.Q
