/- What the law's own 'reaches' makes: whatever is reached from one. -/
import Derived.Test.YtpkigkmkolbiiaaQGraph
import Derived.Test.YtpkigkmkolbiiaaFForetellkeepReaches
namespace Go.Proofs.Ytpkigkmkolbiiaa.Q
open Go.RowKit Go.Proofs.YtpkigkmkolbiiaaW.PrintWords Go.Proofs.YtpkigkmkolbiiaaW.PrintMore Go.Proofs.Ytpkigkmkolbiiaa.P
set_option linter.unusedVariables false
section
variable {n : Nat} {nx : List (List Int)} {S : Int → Prop} (g : Gr n nx) (sp : List S45) (f : Int) (ms : List Int) (mn : Int)
include g
theorem reaches_stop (seen : List Bool) (todo : List Int) (y : Int) (hw : Wl n nx S seen (todo.drop todo.length) y []) (hS : ∀ s, S s → 0 ≤ s ∧ s < n ∧ sn seen s) :
    ∃ L, Ev (fun k => foretellkeep_reaches.l0 k seen todo (todo.length : Int) sp f nx ms mn) L ∧ L.length = n ∧ ∀ j : Int, 0 ≤ j → j < n → (sn L j ↔ ∃ s, S s ∧ Rch nx s j) := by
  rw [List.drop_length] at hw
  refine ⟨seen, ?_, hw.sl, hw.done g hS⟩
  refine Ev.step (f := fun _ => some seen) (fun k => ?_) (Ev.now _)
  simp only [foretellkeep_reaches.l0]
  rw [if_neg (by omega)]
theorem reaches_l0 : ∀ (M : Nat) (seen : List Bool) (todo : List Int) (i : Nat) (y : Int), 2 * seen.count false + (todo.length - i) ≤ M → i ≤ todo.length → todo.length + seen.count false ≤ n → Wl n nx S seen (todo.drop i) y [] → (∀ s, S s → 0 ≤ s ∧ s < n ∧ sn seen s) →
    ∃ L, Ev (fun k => foretellkeep_reaches.l0 k seen todo (i : Int) sp f nx ms mn) L ∧ L.length = n ∧ ∀ j : Int, 0 ≤ j → j < n → (sn L j ↔ ∃ s, S s ∧ Rch nx s j) := by
  intro M
  have hn := g.le
  have hnl := g.len
  induction M with
  | zero =>
    intro seen todo i y hM hi hlen hw hS
    obtain rfl : i = todo.length := by omega
    exact reaches_stop g sp f ms mn seen todo y hw hS
  | succ M ih =>
    intro seen todo i y hM hi hlen hw hS
    by_cases hil : i < todo.length
    · have hx := hw.pnd todo[i] (by rw [List.drop_eq_getElem_cons hil]; exact List.mem_cons_self)
      have hpop : Wl n nx S seen (todo.drop (i + 1)) todo[i] (rd_L1 nx todo[i]) := by
        refine hw.pop todo[i] (fun z hz => ?_) (fun z hz => ?_)
        · rw [List.drop_eq_getElem_cons hil] at hz
          exact List.mem_cons.mp hz
        · rw [List.drop_eq_getElem_cons hil]
          exact List.mem_cons_of_mem _ hz
      have hfx : ∃ s, S s ∧ Rch nx s todo[i] := hw.frm _ hx.1 hx.2.1 hx.2.2
      have hx0 := hx.1
      have hx1 := hx.2.1
      have hrd : rd todo (i : Int) = todo[i] := rd_eq hil
      clear hx hw
      generalize todo[i] = x at hpop hfx hx0 hx1 hrd
      have hl2 := g.len2 x
      have hlx : ∀ (d q : Nat) (seen : List Bool) (todo : List Int), q + d = (rd_L1 nx x).length → 2 * seen.count false + (todo.length - (i + 1)) ≤ M → i < todo.length → rd todo (i : Int) = x → todo.length + seen.count false ≤ n → Wl n nx S seen (todo.drop (i + 1)) x ((rd_L1 nx x).drop q) → (∀ s, S s → 0 ≤ s ∧ s < n ∧ sn seen s) →
          ∃ L, Ev (fun k => foretellkeep_reaches.l1 k seen todo (i : Int) (q : Int) sp f nx ms mn) L ∧ L.length = n ∧ ∀ j : Int, 0 ≤ j → j < n → (sn L j ↔ ∃ s, S s ∧ Rch nx s j) := by
        intro d
        induction d with
        | zero =>
          intro q seen todo hq hM hil hrd hlen hw hS
          obtain rfl : q = (rd_L1 nx x).length := by omega
          rw [List.drop_length] at hw
          obtain ⟨L, h1, h2⟩ := ih seen todo (i + 1) x hM hil hlen hw hS
          refine ⟨L, ?_, h2⟩
          refine Ev.step (f := fun k => foretellkeep_reaches.l0 k seen todo ((i + 1 : Nat) : Int) sp f nx ms mn) (fun k => ?_) h1
          simp only [foretellkeep_reaches.l1, hrd]
          rw [if_pos (by omega), if_pos (by omega), if_pos hx0, if_pos (by omega), if_neg (by omega), w64 (n := (i : Int) + 1) (by omega) (by omega)]
          rfl
        | succ d ihd =>
          intro q seen todo hq hM hil hrd hlen hw hS
          have hql : q < (rd_L1 nx x).length := by omega
          have hrq : rd (rd_L1 nx x) (q : Int) = (rd_L1 nx x)[q] := rd_eq hql
          obtain ⟨b0, b1⟩ := g.ok x hx0 hx1 (rd_L1 nx x)[q] (List.getElem_mem hql)
          have hfb : ∃ s, S s ∧ Rch nx s (rd_L1 nx x)[q] := by
            obtain ⟨s, hs, hr⟩ := hfx
            exact ⟨s, hs, hr.tail (List.getElem_mem hql)⟩
          rw [List.drop_eq_getElem_cons hql] at hw
          generalize (rd_L1 nx x)[q] = b at hrq b0 b1 hfb hw
          rcases sn_dec seen b with hb | hb
          · obtain ⟨L, h1, h2⟩ := ihd (q + 1) seen todo (by omega) hM hil hrd hlen (hw.skip hb) hS
            refine ⟨L, ?_, h2⟩
            refine Ev.step (f := fun k => foretellkeep_reaches.l1 k seen todo (i : Int) ((q + 1 : Nat) : Int) sp f nx ms mn) (fun k => ?_) h1
            have hsl := hw.sl
            simp only [foretellkeep_reaches.l1, hrd, hrq]
            rw [if_pos (by omega), if_pos (by omega), if_pos hx0, if_pos (by omega), if_pos (by omega), if_pos (by omega), if_pos b0, if_pos (by omega), if_pos (show rdOf false seen b = true from hb), w64 (n := (q : Int) + 1) (by omega) (by omega)]
            rfl
          · have hsl := hw.sl
            have hbl : b.toNat < seen.length := by omega
            have hct := cnt_set hbl hb
            obtain ⟨L, h1, h2⟩ := ihd (q + 1) (seen.set b.toNat true) (todo ++ [b]) (by omega) (by rw [List.length_append, List.length_singleton]; omega) (by rw [List.length_append]; omega)
              (by rw [← hrd]; unfold rd; rw [List.getD_eq_getElem?_getD, List.getD_eq_getElem?_getD, List.getElem?_append_left (by rw [Int.toNat_natCast]; exact hil)])
              (by rw [List.length_append, List.length_singleton]; omega)
              (hw.put b0 b1 hfb g (fun z => by rw [List.drop_append_of_le_length (by omega), List.mem_append, List.mem_singleton]; exact or_comm))
              (fun s hs => ⟨(hS s hs).1, (hS s hs).2.1, (sn_set b0 (by omega) s (hS s hs).1).2 (.inr (hS s hs).2.2)⟩)
            refine ⟨L, ?_, h2⟩
            refine Ev.step (f := fun k => foretellkeep_reaches.l1 k (seen.set b.toNat true) (todo ++ [b]) (i : Int) ((q + 1 : Nat) : Int) sp f nx ms mn) (fun k => ?_) h1
            simp only [foretellkeep_reaches.l1, hrd, hrq]
            rw [if_pos (by omega), if_pos (by omega), if_pos hx0, if_pos (by omega), if_pos (by omega), if_pos (by omega), if_pos b0, if_pos (by omega), if_neg (show ¬ rdOf false seen b = true from hb), if_pos (by omega), w64 (n := (q : Int) + 1) (by omega) (by omega)]
            rfl
      obtain ⟨L, h1, h2⟩ := hlx (rd_L1 nx x).length 0 seen todo (by omega) (by omega) hil hrd hlen (by rw [List.drop_zero]; exact hpop) hS
      refine ⟨L, ?_, h2⟩
      refine Ev.step (f := fun k => foretellkeep_reaches.l1 k seen todo (i : Int) ((0 : Nat) : Int) sp f nx ms mn) (fun k => ?_) h1
      simp only [foretellkeep_reaches.l0]
      rw [if_pos (by omega)]
      rfl
    · obtain rfl : i = todo.length := by omega
      exact reaches_stop g sp f ms mn seen todo y hw hS
theorem reaches_is (hsp : sp.length = n) (a : Int) (h0 : 0 ≤ a) (h1 : a < n) : ∃ L, Ev (fun k => foretellkeep_reaches.f k sp f nx ms mn a) L ∧ L.length = n ∧ ∀ j : Int, 0 ≤ j → j < n → (sn L j ↔ Rch nx a j) := by
  have hn := g.le
  have hr : (List.replicate n false).length = n := List.length_replicate
  have hno : ∀ j, ¬ sn (List.replicate n false) j := fun j h => by
    have hl := sn_true h
    unfold sn rdOf at h
    rw [List.getD_eq_getElem?_getD, List.getElem?_eq_getElem hl] at h
    simp at h
  have hw : Wl n nx (fun s => s = a) ((List.replicate n false).set a.toNat true) ([a].drop 0) a [] := by
    refine ⟨by rw [List.length_set, hr], fun j j0 j1 hj => ?_, fun x hx => ?_, fun j j0 j1 hj b hb => ?_⟩
    · rcases (sn_set h0 (by omega) j j0).1 hj with rfl | h
      · exact ⟨_, rfl, .refl _⟩
      · exact absurd h (hno j)
    · obtain rfl := List.mem_singleton.mp hx
      exact ⟨h0, h1, (sn_set h0 (by omega) _ h0).2 (.inl rfl)⟩
    · rcases (sn_set h0 (by omega) j j0).1 hj with rfl | h
      · exact .inr (.inl (by simp))
      · exact absurd h (hno j)
  have hc := cnt_set (seen := List.replicate n false) (b := a) (by omega) (hno a)
  have hc0 : (List.replicate n false).count false = n := by simp
  obtain ⟨L, e, hl, hm⟩ := reaches_l0 g sp f ms mn (2 * n) ((List.replicate n false).set a.toNat true) [a] 0 a (by rw [List.length_singleton]; omega) (by simp) (by rw [List.length_singleton]; omega) hw (fun s hs => by subst hs; exact ⟨h0, h1, (sn_set h0 (by omega) _ h0).2 (.inl rfl)⟩)
  refine ⟨L, ?_, hl, fun j j0 j1 => (hm j j0 j1).trans ⟨by rintro ⟨s, rfl, h⟩; exact h, fun h => ⟨a, rfl, h⟩⟩⟩
  refine Ev.congr (fun k => ?_) e
  unfold foretellkeep_reaches.f
  rw [hsp, Int.toNat_natCast, if_pos (by omega), if_pos (by omega), Option.bind_some, if_pos h0, if_pos (by omega)]
  rfl
end
end Go.Proofs.Ytpkigkmkolbiiaa.Q
