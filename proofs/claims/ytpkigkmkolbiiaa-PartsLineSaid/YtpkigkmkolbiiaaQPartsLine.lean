/- The plain law of PartsLine: in a graph that only goes on each spot is a part of its own, and none is fair. -/
import Derived.Test.YtpkigkmkolbiiaaLPartsLine
import Derived.Test.YtpkigkmkolbiiaaQFair
namespace Go.Proofs.Ytpkigkmkolbiiaa.Q
open Go.RowKit Go.Proofs.YtpkigkmkolbiiaaW.PrintWords Go.Proofs.YtpkigkmkolbiiaaW.PrintMore Go.Proofs.Ytpkigkmkolbiiaa.P
set_option linter.unusedVariables false
/-- Rows that only go on, up to i. -/
structure Ln (n : Nat) (nx : List (List Int)) (i : Nat) : Prop where
  len : nx.length = n
  row : ∀ l ∈ nx, l.length ≤ 6 ∧ ∀ b ∈ l, 0 ≤ b ∧ b < (n : Int)
  up : ∀ u : Int, 0 ≤ u → u < (i : Int) → ∀ b ∈ rd_L1 nx u, u < b
theorem L1_mem {nx : List (List Int)} {u : Int} (h0 : 0 ≤ u) (h1 : u < nx.length) : rd_L1 nx u ∈ nx := by
  have hu : u.toNat < nx.length := by omega
  unfold rd_L1
  rw [List.getD_eq_getElem?_getD, List.getElem?_eq_getElem hu]
  exact List.getElem_mem hu
theorem L1_out {nx : List (List Int)} {u : Int} (h : nx.length ≤ u.toNat) : rd_L1 nx u = [] := by
  unfold rd_L1
  rw [List.getD_eq_getElem?_getD, List.getElem?_eq_none h]
  rfl
theorem L1_set {nx : List (List Int)} {i u : Int} {l : List Int} (h0 : 0 ≤ i) (h1 : i < nx.length) (hu : 0 ≤ u) : rd_L1 (nx.set i.toNat l) u = if u = i then l else rd_L1 nx u := by
  unfold rd_L1
  rw [List.getD_eq_getElem?_getD, List.getD_eq_getElem?_getD, List.getElem?_set]
  by_cases c : u = i
  · subst c
    rw [if_pos rfl, if_pos rfl, if_pos (by omega)]
    rfl
  · rw [if_neg (by omega), if_neg c]
theorem Ln.put {n : Nat} {nx : List (List Int)} {i : Nat} (h : Ln n nx i) (hi : i < n) {l : List Int} (hl : l.length ≤ 6 ∧ ∀ b ∈ l, (i : Int) < b ∧ b < (n : Int)) : Ln n (nx.set (i : Int).toNat l) (i + 1) := by
  have hlen := h.len
  refine ⟨by rw [List.length_set]; exact hlen, fun x hx => ?_, fun u u0 u1 b hb => ?_⟩
  · rcases List.mem_or_eq_of_mem_set hx with hx | rfl
    · exact h.row x hx
    · exact ⟨hl.1, fun b hb => by have := hl.2 b hb; omega⟩
  · rw [L1_set (by omega) (by omega) u0] at hb
    by_cases c : u = (i : Int)
    · rw [if_pos c] at hb
      have := hl.2 b hb
      omega
    · rw [if_neg c] at hb
      exact h.up u u0 (by omega) b hb
theorem Ln.rch {n : Nat} {nx : List (List Int)} (h : Ln n nx n) {a b : Int} (hr : Rch nx a b) (a0 : 0 ≤ a) : a ≤ b := by
  induction hr with
  | refl => exact Int.le_refl _
  | @tail b c hb hc ih =>
    by_cases hn : b < (n : Int)
    · have := h.up b (by omega) hn c hc
      omega
    · rw [L1_out (by rw [h.len]; omega)] at hc
      exact absurd hc (by simp)
theorem PartsLine : P.foretellkeep_PartsLine.Pur := by
  intro rows sets ft mt ⟨⟨hrl, hrows⟩, ⟨hsl, hsets⟩, hf, hm⟩
  obtain ⟨sp, f, nx, ms, many, he, g, _, _, h6⟩ := graph_is6 rows sets ft mt hrows hrl hsets hf hm
  generalize min rows.length 20 = n at g
  have hn := g.gr.le
  have hsp := g.sp
  have hnl := g.gr.len
  have hL0 : Ln n nx 0 := ⟨hnl, fun l hl => ⟨h6 l hl, fun b hb => by
    obtain ⟨i, hi, rfl⟩ := row_eq hl
    exact g.gr.ok (i : Int) (by omega) (by omega) b hb⟩, fun u u0 u1 => by omega⟩
  have hfin : ∀ nx : List (List Int), Ln n nx n → Ev (fun k => (scc_Parts.f k sp f nx ms many).bind fun bt353 => ((scc_Fair.f k sp f nx ms many).bind fun bt357 => (if bt353.2 = 0 then (if bt357.2 = 11 then (foretellkeep_PartsLine.j2 k bt353.1 ((bt353.1.length : Int) != (sp.length : Int))) else (foretellkeep_PartsLine.j2 k bt353.1 true)) else (foretellkeep_PartsLine.j2 k bt353.1 true)))) true := by
    intro nx hL
    have g' : Gs n sp f nx ms many := ⟨⟨hL.len, hn, fun a a0 a1 b hb => (hL.row _ (L1_mem a0 (by rw [hL.len]; exact a1))).2 b hb, fun a => by
      by_cases c : a.toNat < nx.length
      · have hmem : rd_L1 nx a ∈ nx := by
          unfold rd_L1
          rw [List.getD_eq_getElem?_getD, List.getElem?_eq_getElem c]
          exact List.getElem_mem c
        have := (hL.row _ hmem).1
        omega
      · rw [L1_out (by omega)]
        simp⟩, g.sp, g.f0, g.f1, g.ml, g.m0, g.m1, g.mr⟩
    have hrow : ∀ l ∈ nx, l.length ≤ 1000000000000 := fun l hl => by have := (hL.row l hl).1; omega
    obtain ⟨part, hp, T⟩ := parts_is g' hrow
    have hid : ∀ u : Int, 0 ≤ u → u < n → rd part u = u := by
      intro u u0 u1
      have p0 := T.lo u u0 u1
      have p1 := T.hi u u0 u1
      have hm := (T.iff (rd part u) u p0 (by omega) u0 u1).1 (T.id_ u u0 u1)
      have h1 := hL.rch hm.1 p0
      have h2 := hL.rch hm.2 u0
      omega
    rcases Fair_sem g' hrow with ⟨i, _, hi, _⟩ | ⟨he2, _⟩
    · obtain ⟨k, hk, hr⟩ := hi.loop
      have h1 := hL.up i hi.r0 hi.r1 k hk
      have h2 := hL.rch hr (by have := hi.r0; omega)
      omega
    · refine Ev.bind hp (Ev.bind he2 ?_)
      simp only [if_true, T.len, hsp]
      have hl2 : ∀ (d i : Nat), i + d = n → Ev (fun k => foretellkeep_PartsLine.l2 k part (i : Int)) true := by
        intro d
        induction d with
        | zero =>
          intro i hi
          refine Ev.step (f := fun _ => some true) (fun k => ?_) (Ev.now _)
          simp only [foretellkeep_PartsLine.l2, T.len]
          rw [if_neg (by omega)]
        | succ d ih =>
          intro i hi
          refine Ev.step (fun k => ?_) (ih (i + 1) (by omega))
          simp only [foretellkeep_PartsLine.l2, T.len]
          rw [if_pos (by omega), if_pos (by omega), if_pos (hid _ (by omega) (by omega)), w64 (n := (i : Int) + 1) (by omega) (by omega)]
          rfl
      refine Ev.step (f := fun k => foretellkeep_PartsLine.l2 k part ((0 : Nat) : Int)) (fun k => ?_) (hl2 n 0 (by omega))
      simp only [foretellkeep_PartsLine.j2]
      rw [if_neg (by simp)]
      rfl
  have hl0 : ∀ (d i : Nat) (nx : List (List Int)), i + d = n → Ln n nx i → Ev (fun k => foretellkeep_PartsLine.l0 k (i : Int) sp f nx ms many) true := by
    intro d
    induction d with
    | zero =>
      intro i nx hi hL
      obtain rfl : i = n := by omega
      have hlen := hL.len
      refine Ev.step (fun k => ?_) (hfin nx hL)
      simp only [foretellkeep_PartsLine.l0]
      rw [if_neg (by omega)]
    | succ d ih =>
      intro i nx hi hL
      have hlen := hL.len
      have hrow := hL.row _ (L1_mem (u := (i : Int)) (by omega) (by omega))
      have hl1 : ∀ (e q : Nat) (l : List Int), q + e = (rd_L1 nx (i : Int)).length → l.length ≤ q → (∀ b ∈ l, (i : Int) < b ∧ b < (n : Int)) → Ev (fun k => foretellkeep_PartsLine.l1 k (i : Int) l (q : Int) sp f nx ms many) true := by
        intro e
        induction e with
        | zero =>
          intro q l hq hll hb
          refine Ev.step (fun k => ?_) (ih (i + 1) _ (by omega) (hL.put (by omega) ⟨by omega, hb⟩))
          simp only [foretellkeep_PartsLine.l1]
          rw [if_pos (by omega), if_pos (by omega), if_neg (by omega), w64 (n := (i : Int) + 1) (by omega) (by omega)]
          rfl
        | succ e ihe =>
          intro q l hq hll hb
          have hql : q < (rd_L1 nx (i : Int)).length := by omega
          have hrq : rd (rd_L1 nx (i : Int)) (q : Int) = (rd_L1 nx (i : Int))[q] := rd_eq hql
          have hbr := hrow.2 _ (List.getElem_mem hql)
          generalize (rd_L1 nx (i : Int))[q] = b at hrq hbr
          by_cases c : b > (i : Int)
          · refine Ev.step (fun k => ?_) (ihe (q + 1) (l ++ [b]) (by omega) (by rw [List.length_append, List.length_singleton]; omega) (fun x hx => ?_))
            · simp only [foretellkeep_PartsLine.l1, hrq]
              rw [if_pos (by omega), if_pos (by omega), if_pos (by omega), if_pos (by omega), if_pos c, if_pos (by omega), w64 (n := (q : Int) + 1) (by omega) (by omega)]
              rfl
            · rcases List.mem_append.1 hx with hx | hx
              · exact hb x hx
              · obtain rfl := List.mem_singleton.1 hx
                exact ⟨c, hbr.2⟩
          · refine Ev.step (fun k => ?_) (ihe (q + 1) l (by omega) (by omega) hb)
            simp only [foretellkeep_PartsLine.l1, hrq]
            rw [if_pos (by omega), if_pos (by omega), if_pos (by omega), if_pos (by omega), if_neg c, w64 (n := (q : Int) + 1) (by omega) (by omega)]
            rfl
      refine Ev.step (fun k => ?_) (hl1 (rd_L1 nx (i : Int)).length 0 [] (by omega) (by simp) (by simp))
      simp only [foretellkeep_PartsLine.l0]
      rw [if_pos (by omega)]
      rfl
  refine Ev.rounds ?_
  unfold foretellkeep_PartsLine.f
  exact Ev.bind he (hl0 n 0 nx (by omega) hL0)
end Go.Proofs.Ytpkigkmkolbiiaa.Q
