/- The plain law of ReachedAll: what is reached is what the first spots reach. -/
import Derived.Test.YtpkigkmkolbiiaaLReachedAll
import Derived.Test.YtpkigkmkolbiiaaQKeepGraph
import Derived.Test.YtpkigkmkolbiiaaQReaches
namespace Go.Proofs.Ytpkigkmkolbiiaa.Q
open Go.RowKit Go.Proofs.YtpkigkmkolbiiaaW.PrintWords Go.Proofs.YtpkigkmkolbiiaaW.PrintMore Go.Proofs.Ytpkigkmkolbiiaa.P
set_option linter.unusedVariables false
theorem sn_put {seen : List Bool} {b : Int} (h0 : 0 ≤ b) (h1 : b < seen.length) (v : Bool) (j : Int) (hj : 0 ≤ j) : sn (seen.set b.toNat v) j ↔ (j = b ∧ v = true) ∨ (j ≠ b ∧ sn seen j) := by
  unfold sn rdOf
  rw [List.getD_eq_getElem?_getD, List.getD_eq_getElem?_getD, List.getElem?_set]
  by_cases c : b.toNat = j.toNat
  · have e : j = b := by omega
    rw [if_pos c, if_pos (by omega)]
    simp [e]
  · have e : j ≠ b := by omega
    rw [if_neg c]
    simp [e]
theorem ReachedAll : P.foretellkeep_ReachedAll.Pur := by
  intro rows sets ft mt ⟨⟨hrl, hrows⟩, ⟨hsl, hsets⟩, hf, hm⟩
  obtain ⟨sp, f, nx, ms, many, he, g, _, _⟩ := graph_is rows sets ft mt hrows hrl hsets hf hm
  have hmx : maxLen = 9223372036854775807 := rfl
  have hz : min rows.length 20 = 0 → ¬ (0 < rows.length) := by omega
  generalize min rows.length 20 = n at g hz
  obtain ⟨L, heL, hLl, hL⟩ := reached_is g
  have hf0 := g.f0
  have hf1 := g.f1
  have hn := g.gr.le
  have hsp := g.sp
  refine Ev.rounds ?_
  unfold foretellkeep_ReachedAll.f
  refine Ev.bind he ?_
  simp only []
  refine Ev.bind heL ?_
  simp only [if_true]
  rw [hLl, hsp]
  have hb : (((n : Int) != (n : Int)) = true) = False := by simp
  have hfin : ∀ x6 : List Bool, x6.length = n → (∀ j : Int, 0 ≤ j → j < n → (sn x6 j ↔ sn L j)) → ∀ (d i : Nat), i + d = n → Ev (fun k => foretellkeep_ReachedAll.l2 k L x6 (i : Int) rows sets ft mt) true := by
    intro x6 h6 hs d
    induction d with
    | zero =>
      intro i hi
      by_cases hr : 0 < rows.length
      · refine Ev.step (f := fun _ => some true) (fun k => ?_) (Ev.now _)
        simp only [foretellkeep_ReachedAll.l2]
        rw [if_neg (by omega), if_pos (by omega)]
      · refine Ev.step (f := fun k => (scc_Check.f k ([] : List S45) 1 ([] : List (List Int)) ([] : List Int) 0).bind fun t205 => (some (t205 == 9))) (fun k => ?_) ?_
        · simp only [foretellkeep_ReachedAll.l2]
          rw [if_neg (by omega), if_neg (by omega)]
        · refine Ev.bind (a := 9) ?_ (ev_some (by decide))
          refine Ev.congr (f := fun k => scc_Check.j0 k 0 true ([] : List S45) 1 ([] : List (List Int)) ([] : List Int) 0) (fun k => ?_) (Ev.step (f := fun _ => some 9) (fun k => ?_) (Ev.now _))
          · unfold scc_Check.f
            rfl
          · simp only [scc_Check.j0]
            rfl
    | succ d ih =>
      intro i hi
      refine Ev.step (f := fun k => foretellkeep_ReachedAll.l2 k L x6 ((i + 1 : Nat) : Int) rows sets ft mt) (fun k => ?_) (ih (i + 1) (by omega))
      have e : rdOf false x6 (i : Int) = rdOf false L (i : Int) := Bool.eq_iff_iff.2 (hs (i : Int) (by omega) (by omega))
      simp only [foretellkeep_ReachedAll.l2]
      rw [if_pos (by omega), if_pos (by omega), if_pos (by omega), e, if_neg (by simp), w64 (n := (i : Int) + 1) (by omega) (by omega)]
      rfl
  have hor : ∀ (x : Int) (x8 : List Bool), x8.length = n → (∀ x6, x6.length = n → (∀ j : Int, 0 ≤ j → j < n → (sn x6 j ↔ (∃ s, (0 ≤ s ∧ s < x + 1) ∧ Rch nx s j))) → Ev (fun k => foretellkeep_ReachedAll.l0 k L x6 (wrap64 (x + 1)) rows sets ft mt sp f nx ms many) true) →
      ∀ (d i : Nat) (x6 : List Bool), i + d = n → x6.length = n → (∀ j : Int, i ≤ j → j < n → ((sn x6 j ∨ sn x8 j) ↔ (∃ s, (0 ≤ s ∧ s < x + 1) ∧ Rch nx s j))) → (∀ j : Int, 0 ≤ j → j < i → (sn x6 j ↔ (∃ s, (0 ≤ s ∧ s < x + 1) ∧ Rch nx s j))) →
      Ev (fun k => foretellkeep_ReachedAll.l1 k L x6 x x8 (i : Int) rows sets ft mt sp f nx ms many) true := by
    intro x x8 h8 hgo d
    induction d with
    | zero =>
      intro i x6 hi h6 ha hb
      refine Ev.step (f := fun k => foretellkeep_ReachedAll.l0 k L x6 (wrap64 (x + 1)) rows sets ft mt sp f nx ms many) (fun k => ?_) (hgo x6 h6 (fun j j0 j1 => hb j j0 (by omega)))
      simp only [foretellkeep_ReachedAll.l1]
      rw [if_neg (by omega)]
    | succ d ih =>
      intro i x6 hi h6 ha hb
      have hput : ∀ v : Bool, (v = true ↔ (sn x6 (i : Int) ∨ sn x8 (i : Int))) → Ev (fun k => foretellkeep_ReachedAll.l1 k L (x6.set (i : Int).toNat v) x x8 ((i + 1 : Nat) : Int) rows sets ft mt sp f nx ms many) true := by
        intro v hv
        refine ih (i + 1) (x6.set (i : Int).toNat v) (by omega) (by rw [List.length_set]; exact h6) (fun j j0 j1 => ?_) (fun j j0 j1 => ?_)
        · rw [sn_put (by omega) (by omega) v j (by omega), ← ha j (by omega) j1]
          have : j ≠ (i : Int) := by omega
          simp [this]
        · rw [sn_put (by omega) (by omega) v j j0]
          by_cases c : j = (i : Int)
          · subst c
            rw [← ha (i : Int) (by omega) (by omega), ← hv]
            simp
          · rw [← hb j j0 (by omega)]
            simp [c]
      rcases sn_dec x6 (i : Int) with c | c
      · refine Ev.step (f := fun k => foretellkeep_ReachedAll.l1 k L (x6.set (i : Int).toNat true) x x8 ((i + 1 : Nat) : Int) rows sets ft mt sp f nx ms many) (fun k => ?_) (hput true (by simp [c]))
        simp only [foretellkeep_ReachedAll.l1]
        rw [if_pos (by omega), if_pos (by omega), if_pos (by omega), if_pos (show rdOf false x6 (i : Int) = true from c), w64 (n := (i : Int) + 1) (by omega) (by omega)]
        rfl
      · refine Ev.step (f := fun k => foretellkeep_ReachedAll.l1 k L (x6.set (i : Int).toNat (rdOf false x8 (i : Int))) x x8 ((i + 1 : Nat) : Int) rows sets ft mt sp f nx ms many) (fun k => ?_) (hput _ (by simp only [c, false_or]; exact Iff.rfl))
        simp only [foretellkeep_ReachedAll.l1]
        rw [if_pos (by omega), if_pos (by omega), if_pos (by omega), if_neg (show ¬ rdOf false x6 (i : Int) = true from c), w64 (n := (i : Int) + 1) (by omega) (by omega)]
        rfl
  have hl0 : ∀ (d i : Nat) (x6 : List Bool), (i : Int) + d = f → x6.length = n → (∀ j : Int, 0 ≤ j → j < n → (sn x6 j ↔ (∃ s, (0 ≤ s ∧ s < (i : Int)) ∧ Rch nx s j))) → Ev (fun k => foretellkeep_ReachedAll.l0 k L x6 (i : Int) rows sets ft mt sp f nx ms many) true := by
    intro d
    induction d with
    | zero =>
      intro i x6 hi h6 hs
      refine Ev.step (f := fun k => foretellkeep_ReachedAll.l2 k L x6 ((0 : Nat) : Int) rows sets ft mt) (fun k => ?_) (hfin x6 h6 (fun j j0 j1 => ?_) n 0 (Nat.zero_add _))
      · simp only [foretellkeep_ReachedAll.l0]
        rw [if_neg (by omega)]
        rfl
      · rw [hs j j0 j1, hL j j0 j1, show (i : Int) = f by omega]
    | succ d ih =>
      intro i x6 hi h6 hs
      obtain ⟨x8, h8e, h8l, h8⟩ := reaches_is g.gr sp f ms many hsp (i : Int) (by omega) (by omega)
      refine Ev.step (f := fun k => (foretellkeep_reaches.f k sp f nx ms many (i : Int)).bind fun t196 => (foretellkeep_ReachedAll.l1 k L x6 (i : Int) t196 ((0 : Nat) : Int) rows sets ft mt sp f nx ms many)) (fun k => ?_) (Ev.bind h8e (hor (i : Int) x8 h8l (fun y6 y6l hy => ?_) n 0 x6 (Nat.zero_add _) h6 (fun j j0 j1 => ?_) (fun j j0 j1 => by omega)))
      · simp only [foretellkeep_ReachedAll.l0]
        rw [if_pos (by omega)]
        rfl
      · rw [w64 (n := (i : Int) + 1) (by omega) (by omega)]
        exact ih (i + 1) y6 (by omega) y6l hy
      · rw [hs j (by omega) j1, h8 j (by omega) j1]
        constructor
        · rintro (⟨s, ⟨s0, s1⟩, hr⟩ | hr)
          · exact ⟨s, ⟨s0, by omega⟩, hr⟩
          · exact ⟨(i : Int), ⟨by omega, by omega⟩, hr⟩
        · rintro ⟨s, ⟨s0, s1⟩, hr⟩
          by_cases c : s = (i : Int)
          · subst c
            exact .inr hr
          · exact .inl ⟨s, ⟨s0, by omega⟩, hr⟩
  refine Ev.step (f := fun k => foretellkeep_ReachedAll.l0 k L (List.replicate n false) ((0 : Nat) : Int) rows sets ft mt sp f nx ms many) (fun k => ?_) (hl0 f.toNat 0 (List.replicate n false) (by omega) List.length_replicate (fun j j0 j1 => ?_))
  · simp only [foretellkeep_ReachedAll.j0, hsp, Int.toNat_natCast]
    rw [if_neg (by simp), if_pos (by omega), if_pos (by omega)]
    rfl
  · exact ⟨fun h => absurd h (no_seen j), fun ⟨s, ⟨s0, s1⟩, _⟩ => by omega⟩
end Go.Proofs.Ytpkigkmkolbiiaa.Q
