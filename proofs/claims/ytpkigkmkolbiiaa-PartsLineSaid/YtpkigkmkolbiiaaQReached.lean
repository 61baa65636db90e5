/- What 'Check' and 'Reached' make of a graph. -/
import Derived.Test.YtpkigkmkolbiiaaQGraph
import Derived.Test.YtpkigkmkolbiiaaFSccReached
namespace Go.Proofs.Ytpkigkmkolbiiaa.Q
open Go.RowKit Go.Proofs.YtpkigkmkolbiiaaW.PrintWords Go.Proofs.YtpkigkmkolbiiaaW.PrintMore Go.Proofs.Ytpkigkmkolbiiaa.P
set_option linter.unusedVariables false
/-- A graph that 'Check' lets in. -/
structure Gs (n : Nat) (sp : List S45) (f : Int) (nx : List (List Int)) (ms : List Int) (many : Int) : Prop where
  gr : Gr n nx
  sp : sp.length = n
  f0 : 0 ≤ f
  f1 : f ≤ n
  ml : ms.length = n
  m0 : 0 ≤ many
  m1 : many ≤ 6
  mr : ∀ i : Int, 0 ≤ i → i < n → 0 ≤ rd ms i ∧ rd ms i < shl .i64 1 many
section
variable {n : Nat} {sp : List S45} {f : Int} {nx : List (List Int)} {ms : List Int} {many : Int}
theorem check_is (g : Gs n sp f nx ms many) : Ev (fun k => scc_Check.f k sp f nx ms many) 0 := by
  have hn := g.gr.le
  have hnl := g.gr.len
  have hsp := g.sp
  have hml := g.ml
  have hf0 := g.f0
  have hf1 := g.f1
  have hm0 := g.m0
  have hm1 := g.m1
  have h0 : ∀ (d i : Nat), i + d = n → Ev (fun k => scc_Check.l0 k (n : Int) nx (n : Int) (i : Int) sp f nx ms many) 0 := by
    intro d
    induction d with
    | zero =>
      intro i hi
      refine Ev.step (f := fun _ => some 0) (fun k => ?_) (Ev.now _)
      simp only [scc_Check.l0]
      rw [if_neg (by omega)]
    | succ d ih =>
      intro i hi
      have h1 : ∀ (e q : Nat), q + e = (rd_L1 nx (i : Int)).length → Ev (fun k => scc_Check.l1 k (n : Int) (i : Int) nx (n : Int) (i : Int) (rd_L1 nx (i : Int)) ((rd_L1 nx (i : Int)).length : Int) (q : Int) sp f nx ms many) 0 := by
        have hl2 := g.gr.len2 (i : Int)
        have hok := g.gr.ok (i : Int) (by omega) (by omega)
        generalize rd_L1 nx (i : Int) = l at *
        intro e
        induction e with
        | zero =>
          intro q hq
          refine Ev.step (f := fun k => scc_Check.l0 k (n : Int) nx (n : Int) ((i + 1 : Nat) : Int) sp f nx ms many) (fun k => ?_) (ih (i + 1) (by omega))
          have hmr := g.mr (i : Int) (by omega) (by omega)
          simp only [scc_Check.l1]
          rw [if_neg (by omega), if_pos (by omega), if_pos (by omega), if_neg (by omega), if_pos hm0, if_neg (by omega), w64 (n := (i : Int) + 1) (by omega) (by omega)]
          rfl
        | succ e ihe =>
          intro q hq
          have hql : q < l.length := by omega
          obtain ⟨b0, b1⟩ := hok l[q] (List.getElem_mem hql)
          refine Ev.step (f := fun k => scc_Check.l1 k (n : Int) (i : Int) nx (n : Int) (i : Int) l (l.length : Int) ((q + 1 : Nat) : Int) sp f nx ms many) (fun k => ?_) (ihe (q + 1) (by omega))
          simp only [scc_Check.l1]
          rw [if_pos (by omega), if_pos (by omega), if_pos (by omega), rd_eq hql, if_neg (by omega), if_neg (by omega), w64 (n := (q : Int) + 1) (by omega) (by omega)]
          rfl
      refine Ev.step (f := fun k => scc_Check.l1 k (n : Int) (i : Int) nx (n : Int) (i : Int) (rd_L1 nx (i : Int)) ((rd_L1 nx (i : Int)).length : Int) ((0 : Nat) : Int) sp f nx ms many) (fun k => ?_) (h1 (rd_L1 nx (i : Int)).length 0 (Nat.zero_add _))
      simp only [scc_Check.l0]
      rw [if_pos (by omega), if_pos (by omega), if_pos (by omega)]
      rfl
  refine Ev.congr (f := fun k => scc_Check.j0 k (n : Int) false sp f nx ms many) (fun k => ?_) (Ev.step (f := fun k => scc_Check.l0 k (n : Int) nx (n : Int) ((0 : Nat) : Int) sp f nx ms many) (fun k => ?_) (h0 n 0 (by omega)))
  · unfold scc_Check.f
    rw [hsp, hnl, hml, if_neg (by omega), if_pos rfl, if_pos rfl, if_neg (by omega), if_neg (by omega), if_neg (by omega), decide_eq_false (by omega)]
  · simp only [scc_Check.j0]
    rw [if_neg (by decide), hnl]
    rfl
theorem Wl.weak {S : Int → Prop} {seen : List Bool} {pend : List Int} {y : Int} (h : Wl n nx S seen pend y []) (y' : Int) (r : List Int) : Wl n nx S seen pend y' r :=
  ⟨h.sl, h.frm, h.pnd, fun j h0 h1 hj b hb => (h.cls j h0 h1 hj b hb).imp id (fun h => h.imp id (fun h => absurd h.2 (by simp)))⟩
section
variable {S : Int → Prop} (g : Gr n nx)
include g
theorem vis_is {seen : List Bool} {pend : List Int} {y b : Int} {rest : List Int} (hw : Wl n nx S seen pend y (b :: rest)) (b0 : 0 ≤ b) (b1 : b < n) (hfb : ∃ s, S s ∧ Rch nx s b) (hlen : pend.length + seen.count false ≤ n) :
    ∃ seen' pend', scc_Reached.vis (seen, pend) b = some (seen', pend') ∧ Wl n nx S seen' pend' y rest ∧ pend'.length + seen'.count false ≤ n ∧ 2 * seen'.count false + pend'.length ≤ 2 * seen.count false + pend.length ∧ sn seen' b ∧ ∀ j : Int, 0 ≤ j → sn seen j → sn seen' j := by
  have hn := g.le
  have hsl := hw.sl
  unfold scc_Reached.vis
  rcases sn_dec seen b with hb | hb
  · refine ⟨seen, pend, ?_, hw.skip hb, hlen, Nat.le_refl _, hb, fun _ _ h => h⟩
    rw [if_pos b0, if_pos (by simp only; omega), if_pos (show rdOf false seen b = true from hb)]
  · have hct := cnt_set (by omega) hb
    refine ⟨seen.set b.toNat true, pend ++ [b], ?_, hw.put b0 b1 hfb g (fun z => by rw [List.mem_append, List.mem_singleton]; exact or_comm), by rw [List.length_append, List.length_singleton]; omega, by rw [List.length_append, List.length_singleton]; omega, (sn_set b0 (by omega) b b0).2 (.inl rfl), fun j j0 h => (sn_set b0 (by omega) j j0).2 (.inr h)⟩
    rw [if_pos b0, if_pos (by simp only; omega), if_neg (show ¬ rdOf false seen b = true from hb), if_pos (by simp only; omega)]
theorem next_is (l : List Int) (hl2 : l.length < 4611686018427387904) (hfl : ∀ b ∈ l, 0 ≤ b ∧ b < n ∧ ∃ s, S s ∧ Rch nx s b) (y : Int) : ∀ (d q : Nat) (seen : List Bool) (pend : List Int), q + d = l.length → Wl n nx S seen pend y (l.drop q) → pend.length + seen.count false ≤ n →
    ∃ seen' pend', Ev (fun k => scc_Reached.nextL k l (q : Int) (seen, pend)) (seen', pend') ∧ Wl n nx S seen' pend' y [] ∧ pend'.length + seen'.count false ≤ n ∧ 2 * seen'.count false + pend'.length ≤ 2 * seen.count false + pend.length ∧ ∀ j : Int, 0 ≤ j → sn seen j → sn seen' j := by
  intro d
  induction d with
  | zero =>
    intro q seen pend hq hw hlen
    obtain rfl : q = l.length := by omega
    rw [List.drop_length] at hw
    refine ⟨seen, pend, Ev.step (f := fun _ => some (seen, pend)) (fun k => ?_) (Ev.now _), hw, hlen, Nat.le_refl _, fun _ _ h => h⟩
    simp only [scc_Reached.nextL]
    rw [if_neg (by omega)]
  | succ d ih =>
    intro q seen pend hq hw hlen
    have hql : q < l.length := by omega
    rw [List.drop_eq_getElem_cons hql] at hw
    obtain ⟨b0, b1, hfb⟩ := hfl l[q] (List.getElem_mem hql)
    obtain ⟨s1, p1, hv, hw1, hl1, hm1, _, hmono⟩ := vis_is g hw b0 b1 hfb hlen
    obtain ⟨s2, p2, he, hw2, hlen2, hm2, hmono2⟩ := ih (q + 1) s1 p1 (by omega) hw1 hl1
    refine ⟨s2, p2, Ev.step (f := fun k => scc_Reached.nextL k l ((q + 1 : Nat) : Int) (s1, p1)) (fun k => ?_) he, hw2, hlen2, by omega, fun j j0 h => hmono2 j j0 (hmono j j0 h)⟩
    simp only [scc_Reached.nextL]
    rw [if_pos (by omega), if_pos (by omega), rd_eq hql, hv, Option.bind_some, w64 (n := (q : Int) + 1) (by omega) (by omega)]
    rfl
theorem main_is : ∀ (M : Nat) (seen : List Bool) (pend : List Int) (y : Int), 2 * seen.count false + pend.length ≤ M → Wl n nx S seen pend y [] → pend.length + seen.count false ≤ n → (∀ s, S s → 0 ≤ s ∧ s < n ∧ sn seen s) →
    ∃ L, (∃ K, ∀ k m, K ≤ k → K ≤ m → scc_Reached.mainL k m nx (seen, pend) = some L) ∧ L.length = n ∧ ∀ j : Int, 0 ≤ j → j < n → (sn L j ↔ ∃ s, S s ∧ Rch nx s j) := by
  intro M
  induction M with
  | zero =>
    intro seen pend y hM hw hlen hS
    obtain rfl : pend = [] := List.eq_nil_of_length_eq_zero (by omega)
    refine ⟨seen, ⟨1, fun k m hk hm => ?_⟩, hw.sl, hw.done g hS⟩
    obtain ⟨k, rfl⟩ : ∃ j, k = j + 1 := ⟨k - 1, by omega⟩
    simp [scc_Reached.mainL]
  | succ M ih =>
    intro seen pend y hM hw hlen hS
    rcases G.snoc_cases pend with rfl | ⟨ps, x, rfl⟩
    · refine ⟨seen, ⟨1, fun k m hk hm => ?_⟩, hw.sl, hw.done g hS⟩
      obtain ⟨k, rfl⟩ : ∃ j, k = j + 1 := ⟨k - 1, by omega⟩
      simp [scc_Reached.mainL]
    · obtain ⟨x0, x1, xs⟩ := hw.pnd x (by simp)
      obtain ⟨s, hs, hr⟩ := hw.frm x x0 x1 xs
      have hnl := g.len
      rw [List.length_append, List.length_singleton] at hM hlen
      have hpop := hw.pop (pend' := ps) x (fun z hz => by rw [List.mem_append, List.mem_singleton] at hz; exact hz.symm) (fun z hz => by rw [List.mem_append]; exact .inl hz)
      obtain ⟨s1, p1, ⟨K1, hK1⟩, hw1, hl1, hm1, hmono⟩ := next_is g (rd_L1 nx x) (g.len2 x) (fun b hb => ⟨(g.ok x x0 x1 b hb).1, (g.ok x x0 x1 b hb).2, s, hs, hr.tail hb⟩) x _ 0 seen ps (Nat.zero_add _) (by rw [List.drop_zero]; exact hpop) (by omega)
      obtain ⟨L, ⟨K2, hK2⟩, hL⟩ := ih s1 p1 x (by omega) hw1 hl1 (fun s hs => ⟨(hS s hs).1, (hS s hs).2.1, hmono s (hS s hs).1 (hS s hs).2.2⟩)
      refine ⟨L, ⟨max K1 K2 + 1, fun k m hk hm => ?_⟩, hL⟩
      obtain ⟨k, rfl⟩ : ∃ j, k = j + 1 := ⟨k - 1, by omega⟩
      simp only [scc_Reached.mainL, List.getLast?_append, List.getLast?_singleton, Option.some_or, List.dropLast_concat]
      rw [if_pos x0, if_pos (by omega)]
      have h1 := hK1 m (by omega)
      simp only [rd_L1] at h1
      rw [show (0 : Int) = ((0 : Nat) : Int) from rfl, h1, Option.bind_some]
      exact hK2 k m (by omega) (by omega)
theorem init_is (f : Int) (hf : f ≤ n) (hS : ∀ s, S s ↔ 0 ≤ s ∧ s < f) : ∀ (d i : Nat) (seen : List Bool) (pend : List Int) (y : Int), (i : Int) + d = f → Wl n nx S seen pend y [] → pend.length + seen.count false ≤ n → (∀ s : Int, 0 ≤ s → s < i → sn seen s) →
    ∃ seen' pend', Ev (fun k => scc_Reached.initL k f (i : Int) (seen, pend)) (seen', pend') ∧ Wl n nx S seen' pend' (-1) [] ∧ pend'.length + seen'.count false ≤ n ∧ ∀ s : Int, 0 ≤ s → s < f → sn seen' s := by
  have hn := g.le
  intro d
  induction d with
  | zero =>
    intro i seen pend y hi hw hlen hs
    refine ⟨seen, pend, Ev.step (f := fun _ => some (seen, pend)) (fun k => ?_) (Ev.now _), hw.weak _ _, hlen, fun s h0 h1 => hs s h0 (by omega)⟩
    simp only [scc_Reached.initL]
    rw [if_neg (by omega)]
  | succ d ih =>
    intro i seen pend y hi hw hlen hs
    obtain ⟨s1, p1, hv, hw1, hl1, _, hb, hmono⟩ := vis_is g (hw.weak (-1) [(i : Int)]) (by omega) (by omega) ⟨(i : Int), (hS _).2 ⟨by omega, by omega⟩, .refl _⟩ hlen
    obtain ⟨s2, p2, he, hw2, hlen2, hs2⟩ := ih (i + 1) s1 p1 (-1) (by omega) hw1 hl1 (fun s s0 s1 => by
      by_cases c : s = (i : Int)
      · rw [c]; exact hb
      · exact hmono s s0 (hs s s0 (by omega)))
    refine ⟨s2, p2, Ev.step (f := fun k => scc_Reached.initL k f ((i + 1 : Nat) : Int) (s1, p1)) (fun k => ?_) he, hw2, hlen2, hs2⟩
    simp only [scc_Reached.initL]
    rw [if_pos (by omega), hv, Option.bind_some, w64 (n := (i : Int) + 1) (by omega) (by omega)]
    rfl
end
theorem no_seen (j : Int) : ¬ sn (List.replicate n false) j := fun h => by
  have hl := sn_true h
  unfold sn rdOf at h
  rw [List.getD_eq_getElem?_getD, List.getElem?_eq_getElem hl] at h
  simp at h
theorem reached_is (g : Gs n sp f nx ms many) : ∃ L, Ev (fun k => scc_Reached.f k sp f nx ms many) (L, 0) ∧ L.length = n ∧ ∀ j : Int, 0 ≤ j → j < n → (sn L j ↔ ∃ s, (0 ≤ s ∧ s < f) ∧ Rch nx s j) := by
  have hf0 := g.f0
  have hf1 := g.f1
  have hn := g.gr.le
  have hw : Wl n nx (fun s => 0 ≤ s ∧ s < f) (List.replicate n false) [] (-1) [] :=
    ⟨List.length_replicate, fun j _ _ h => absurd h (no_seen j), fun x hx => absurd hx (by simp), fun j _ _ h => absurd h (no_seen j)⟩
  obtain ⟨s1, p1, he1, hw1, hl1, hs1⟩ := init_is g.gr f hf1 (fun s => Iff.rfl) f.toNat 0 (List.replicate n false) [] (-1) (by omega) hw (by simp) (fun s h0 h1 => by omega)
  obtain ⟨L, ⟨K, hK⟩, hL⟩ := main_is g.gr _ s1 p1 (-1) (Nat.le_refl _) hw1 hl1 (fun s hs => ⟨hs.1, by omega, hs1 s hs.1 hs.2⟩)
  refine ⟨L, ?_, hL⟩
  unfold scc_Reached.f
  refine Ev.bind (check_is g) ?_
  simp only [if_true]
  rw [g.sp]
  simp only [if_pos (show n ≤ 281474976710656 by omega)]
  refine Ev.bind he1 ?_
  exact ⟨K, fun k hk => by simp only [hK k k hk hk, Option.bind_some]⟩
end
end Go.Proofs.Ytpkigkmkolbiiaa.Q
