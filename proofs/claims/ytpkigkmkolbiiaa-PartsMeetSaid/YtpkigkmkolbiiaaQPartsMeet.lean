/- The plain law of PartsMeet: two spots are of one part just if each reaches the other. -/
import Derived.Test.YtpkigkmkolbiiaaLPartsMeet
import Derived.Test.YtpkigkmkolbiiaaQKeepGraph
import Derived.Test.YtpkigkmkolbiiaaQReaches
import Derived.Test.YtpkigkmkolbiiaaQParts
namespace Go.Proofs.Ytpkigkmkolbiiaa.Q
open Go.RowKit Go.Proofs.YtpkigkmkolbiiaaW.PrintWords Go.Proofs.YtpkigkmkolbiiaaW.PrintMore Go.Proofs.Ytpkigkmkolbiiaa.P
set_option linter.unusedVariables false
theorem PartsMeet : P.foretellkeep_PartsMeet.Pur := by
  intro rows sets ft mt a1 a2 ⟨⟨hrl, hrows⟩, ⟨hsl, hsets⟩, hf, hm⟩ ha1 ha2
  obtain ⟨sp, f, nx, ms, many, he, g, _, _, h6⟩ := graph_is6 rows sets ft mt hrows hrl hsets hf hm
  generalize min rows.length 20 = n at g
  obtain ⟨part, hp, T⟩ := parts_is g (fun l hl => by have := h6 l hl; omega)
  have hn := g.gr.le
  have hsp := g.sp
  have hpl := T.len
  refine Ev.rounds ?_
  unfold foretellkeep_PartsMeet.f
  refine Ev.bind he ?_
  simp only
  refine Ev.bind hp ?_
  simp only
  simp only [if_true]
  by_cases hn0 : n = 0
  · refine Ev.step (f := fun k => (scc_Check.f (k) ([] : List (S45)) 1 ([] : List (List Int)) ([] : List Int) 0).bind fun t224 => (some (t224 == 9))) (fun k => ?_) ⟨1, fun k hk => by
      obtain ⟨k, rfl⟩ : ∃ m, k = m + 1 := ⟨k - 1, by omega⟩
      simp [scc_Check.f, scc_Check.j0]⟩
    simp only [foretellkeep_PartsMeet.j0, hsp, hpl]
    rw [if_neg (by simp), if_pos (by omega)]
  · have p1 := picked_is (m := (n : Int)) ha1 (by omega)
    have p2 := picked_is (m := (n : Int)) ha2 (by omega)
    have l1 := pk_lo a1 (m := (n : Int)) (by omega)
    have l2 := pk_lo a2 (m := (n : Int)) (by omega)
    have u1 := pk_hi a1 (m := (n : Int)) (by omega)
    have u2 := pk_hi a2 (m := (n : Int)) (by omega)
    generalize pk a1 (n : Int) = x at p1 l1 u1
    generalize pk a2 (n : Int) = y at p2 l2 u2
    obtain ⟨Lx, ex, lx, hx⟩ := reaches_is g.gr sp f ms many hsp x l1 u1
    obtain ⟨Ly, ey, ly, hy⟩ := reaches_is g.gr sp f ms many hsp y l2 u2
    have hl0 : ∀ (d i : Nat), i + d = n → Ev (fun k => foretellkeep_PartsMeet.l0 k part x y Lx Ly (i : Int)) true := by
      intro d
      induction d with
      | zero =>
        intro i hi
        have hiff := T.iff x y l1 u1 l2 u2
        have hxy := hx y l2 u2
        have hyx := hy x l1 u1
        unfold sn at hxy hyx
        by_cases c : rdOf false Lx y = true
        · have hr := hxy.1 c
          refine Ev.step (f := fun _ => some (((rd part x) == (rd part y)) == (rdOf false Ly x))) (fun k => ?_) (ev_some ?_)
          · simp only [foretellkeep_PartsMeet.l0]
            rw [if_neg (by omega), if_pos l1, if_pos (by omega), if_pos l2, if_pos (by omega), if_pos (by omega), if_pos c, if_pos (by omega)]
          · by_cases c2 : rdOf false Ly x = true
            · have e := hiff.2 ⟨hr, hyx.1 c2⟩
              simp [e, c2]
            · have e : rd part x ≠ rd part y := fun e => c2 (hyx.2 (hiff.1 e).2)
              simp [e, c2]
        · have e : rd part x ≠ rd part y := fun e => c (hxy.2 (hiff.1 e).1)
          refine Ev.step (f := fun _ => some (((rd part x) == (rd part y)) == false)) (fun k => ?_) (ev_some ?_)
          · simp only [foretellkeep_PartsMeet.l0]
            rw [if_neg (by omega), if_pos l1, if_pos (by omega), if_pos l2, if_pos (by omega), if_pos (by omega), if_neg c]
          · simp [e]
      | succ d ih =>
        intro i hi
        have q1 := T.lo (i : Int) (by omega) (by omega)
        have q2 := T.hi (i : Int) (by omega) (by omega)
        have q3 := T.id_ (i : Int) (by omega) (by omega)
        refine Ev.step (f := fun k => foretellkeep_PartsMeet.l0 k part x y Lx Ly ((i + 1 : Nat) : Int)) (fun k => ?_) (ih (i + 1) (by omega))
        simp only [foretellkeep_PartsMeet.l0]
        rw [if_pos (by omega), if_pos (by omega), if_neg (by omega), if_neg (by omega), if_pos q1, if_pos (by omega), if_pos q3, w64 (n := (i : Int) + 1) (by omega) (by omega)]
        rfl
    refine Ev.step (f := fun k => (foretellkeep_picked.f a1 (part.length : Int)).bind fun t225 => ((foretellkeep_picked.f a2 (part.length : Int)).bind fun t226 => ((foretellkeep_reaches.f k sp f nx ms many t225).bind fun t227 => ((foretellkeep_reaches.f k sp f nx ms many t226).bind fun t230 => (foretellkeep_PartsMeet.l0 k part t225 t226 t227 t230 ((0 : Nat) : Int)))))) (fun k => ?_) ?_
    · simp only [foretellkeep_PartsMeet.j0, hsp, hpl]
      rw [if_neg (by simp), if_neg (by omega)]
      rfl
    · rw [hpl]
      simp only [p1, p2, Option.bind_some]
      exact Ev.bind ex (Ev.bind ey (hl0 n 0 (by omega)))
end Go.Proofs.Ytpkigkmkolbiiaa.Q
