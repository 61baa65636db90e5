/- The plain law of PolishOne: a term that is cut is none, nor is one with an op behind it. -/
import Derived.Test.YtlejdidngmjicaaDoorLPolishOne
import Derived.Test.YtlejdidngmjicaaDoorQGen
namespace Go.Proofs.YtlejdidngmjicaaDoor.Q
open Go.RowKit Go.Proofs.YtlejdidngmjicaaDoorW.PrintWords Go.Proofs.YtlejdidngmjicaaDoorW.PrintMore Go.Proofs.YtlejdidngmjicaaDoor.P
set_option linter.unusedVariables false
theorem skip_end (l : List Op) (es : List Int) (p : Int) (hp : p = (l.length : Int)) : Ev (fun k => polish_skip.f k l p es) (4, 0, es) := by
  refine Ev.step (f := fun _ => some ((4 : Int), (0 : Int), es)) (fun k => ?_) (Ev.now _)
  simp only [polish_skip.f]
  rw [if_pos (by omega), if_neg (by omega)]
/-- 'skip' over a term that is cut. -/
theorem skip_cut : ∀ (t : Tm), t.ok → ∀ (m : Nat) (l pre : List Op) (A M : List Int) (p : Int), m < t.size → l = pre ++ t.flat.take m → p = (pre.length : Int) → A.length = pre.length → M.length = m → l.length ≤ 1000000 →
    ∃ es, Ev (fun k => polish_skip.f k l p (A ++ M)) (4, 0, es) := by
  intro t
  induction t with
  | leaf o =>
    intro hok m l pre A M p hm hl hp hA hM hlen
    obtain rfl : m = 0 := by simp [Tm.size] at hm; omega
    exact ⟨_, skip_end l _ p (by rw [hl, hp]; simp)⟩
  | un o a iha =>
    intro hok m l pre A M p hm hl hp hA hM hlen
    cases m with
    | zero => exact ⟨_, skip_end l _ p (by rw [hl, hp]; simp)⟩
    | succ m =>
      obtain ⟨h1, h2, h3, h4⟩ := hok
      have hrd : rd_T32 l p = o := rdT_at (post := a.flat.take m) (by rw [hl]; rfl) hp
      have hll : pre.length + 1 ≤ l.length := by rw [hl]; simp [Tm.flat]
      obtain ⟨x, M', rfl⟩ : ∃ x M', M = x :: M' := by
        cases M with
        | nil => simp at hM
        | cons x M => exact ⟨x, M, rfl⟩
      obtain ⟨es, he⟩ := iha h4 m l (pre ++ [o]) (A ++ [x]) M' (p + 1) (by simp [Tm.size] at hm; omega) (by rw [hl]; simp [Tm.flat]) (by simp; omega) (by simp [hA]) (by simpa using hM) hlen
      refine ⟨es, Ev.step (f := fun k => polish_skip.l k l p 1 0 (p + 1) (A ++ x :: M')) (fun k => ?_) (Ev.step (f := fun k => (polish_skip.f k l (p + 1) (A ++ [x] ++ M')).bind fun r => if r.1 = 0 then polish_skip.l k l p 1 1 r.2.1 r.2.2 else some (r.1, 0, r.2.2)) (fun k => ?_) (Ev.bind he (ev_some (by simp))))⟩
      · simp only [polish_skip.f, hrd, h3]
        rw [if_pos (by omega), if_pos (by omega), if_neg (by omega), if_neg (by omega), w64 (n := p + 1) (by omega) (by omega)]
      · simp only [polish_skip.l]
        rw [if_pos (by omega), w64 (n := (0 : Int) + 1) (by omega) (by omega)]
        simp
  | bin o a b iha ihb =>
    intro hok m l pre A M p hm hl hp hA hM hlen
    cases m with
    | zero => exact ⟨_, skip_end l _ p (by rw [hl, hp]; simp)⟩
    | succ m =>
      obtain ⟨h1, h2, h3, h4, h5⟩ := hok
      have hrd : rd_T32 l p = o := rdT_at (post := (a.flat ++ b.flat).take m) (by rw [hl]; rfl) hp
      have hll : pre.length + 1 ≤ l.length := by rw [hl]; simp [Tm.flat]
      obtain ⟨x, M', rfl⟩ : ∃ x M', M = x :: M' := by
        cases M with
        | nil => simp at hM
        | cons x M => exact ⟨x, M, rfl⟩
      have hM' : M'.length = m := by simpa using hM
      have hstart : ∀ es, Ev (fun k => (polish_skip.f k l (p + 1) (A ++ [x] ++ M')).bind fun r => if r.1 = 0 then polish_skip.l k l p 2 1 r.2.1 r.2.2 else some (r.1, 0, r.2.2)) (4, 0, es) → ∃ es, Ev (fun k => polish_skip.f k l p (A ++ x :: M')) (4, 0, es) := by
        intro es h
        refine ⟨es, Ev.step (f := fun k => polish_skip.l k l p 2 0 (p + 1) (A ++ x :: M')) (fun k => ?_) (Ev.step (f := fun k => (polish_skip.f k l (p + 1) (A ++ [x] ++ M')).bind fun r => if r.1 = 0 then polish_skip.l k l p 2 1 r.2.1 r.2.2 else some (r.1, 0, r.2.2)) (fun k => ?_) h)⟩
        · simp only [polish_skip.f, hrd, h3]
          rw [if_pos (by omega), if_pos (by omega), if_neg (by omega), if_neg (by omega), w64 (n := p + 1) (by omega) (by omega)]
        · simp only [polish_skip.l]
          rw [if_pos (by omega), w64 (n := (0 : Int) + 1) (by omega) (by omega)]
          simp
      by_cases c : m < a.size
      · have hta : (a.flat ++ b.flat).take m = a.flat.take m := List.take_append_of_le_length (by rw [a.flat_len]; omega)
        obtain ⟨es, he⟩ := iha h4 m l (pre ++ [o]) (A ++ [x]) M' (p + 1) c (by rw [hl, ← hta]; simp [Tm.flat]) (by simp; omega) (by simp [hA]) hM' hlen
        exact hstart es (Ev.bind he (ev_some (by simp)))
      · have hta : (a.flat ++ b.flat).take m = a.flat ++ b.flat.take (m - a.size) := by
          rw [List.take_append, a.flat_len, List.take_of_length_le (by rw [a.flat_len]; omega)]
        obtain ⟨Ma, Mb, rfl, hMa, hMb⟩ : ∃ Ma Mb, M' = Ma ++ Mb ∧ Ma.length = a.size ∧ Mb.length = m - a.size := by
          refine ⟨M'.take a.size, M'.drop a.size, (List.take_append_drop _ _).symm, ?_, ?_⟩
          · rw [List.length_take]; omega
          · rw [List.length_drop]; omega
        have ha := skip_ok a h4 l (pre ++ [o]) (b.flat.take (m - a.size)) (A ++ [x]) Ma Mb (p + 1) (by rw [hl, ← hta]; simp [Tm.flat]) (by simp; omega) (by simp [hA]) hMa hlen
        obtain ⟨es, hb⟩ := ihb h5 (m - a.size) l (pre ++ [o] ++ a.flat) (A ++ [x] ++ a.ends (p + 1)) Mb (p + 1 + a.size) (by simp [Tm.size] at hm; omega) (by rw [hl]; simp [Tm.flat]; simpa using hta) (by simp [Tm.flat_len]; omega) (by simp [hA, Tm.flat_len, Tm.ends_len]) hMb hlen
        refine hstart es (Ev.bind ha ?_)
        simp only [if_true]
        refine Ev.step (f := fun k => (polish_skip.f k l (p + 1 + a.size) ((A ++ [x] ++ a.ends (p + 1)) ++ Mb)).bind fun r => if r.1 = 0 then polish_skip.l k l p 2 2 r.2.1 r.2.2 else some (r.1, 0, r.2.2)) (fun k => ?_) (Ev.bind hb (ev_some (by simp)))
        simp only [polish_skip.l]
        rw [if_pos (by omega), w64 (n := (1 : Int) + 1) (by omega) (by omega)]
        simp
theorem ends_cut (t : Tm) (h : t.ok) (hs : t.size ≤ 60) (m : Nat) (hm : m < t.size) : Ev (fun k => polish_Ends.f k (t.flat.take m)) ([], 4) := by
  have hl : (t.flat.take m).length = m := by rw [List.length_take, t.flat_len]; omega
  obtain ⟨es, he⟩ := skip_cut t h m (t.flat.take m) [] [] (List.replicate (t.flat.take m).length 0) 0 hm rfl rfl rfl (by rw [List.length_replicate, hl]) (by omega)
  unfold polish_Ends.f
  simp only [if_neg (show ¬ (60 < ((t.flat.take m).length : Int)) by omega)]
  exact Ev.bind he (ev_some (by simp))
theorem ends_more (t : Tm) (h : t.ok) (hs : t.size ≤ 59) (o : Op) : Ev (fun k => polish_Ends.f k (t.flat ++ [o])) ([], 3) := by
  have hl : (t.flat ++ [o]).length = t.size + 1 := by rw [List.length_append, t.flat_len]; rfl
  have he := skip_ok t h (t.flat ++ [o]) [] [o] [] (List.replicate t.size 0) [0] 0 (by simp) rfl rfl (by simp) (by omega)
  have hr : List.replicate (t.flat ++ [o]).length (0 : Int) = [] ++ (List.replicate t.size 0 ++ [0]) := by
    rw [hl, List.nil_append, List.replicate_succ']
  unfold polish_Ends.f
  simp only [if_neg (show ¬ (60 < ((t.flat ++ [o]).length : Int)) by omega)]
  rw [hr]
  refine Ev.bind he ?_
  simp only [if_true]
  rw [hl]
  simp only [if_neg (show ¬ ((0 : Int) + (t.size : Int) = ((t.size + 1 : Nat) : Int)) by omega)]
  exact Ev.now _
theorem PolishOne : P.foretellkeep_PolishOne.Pur := by
  intro raw a1 ⟨hl, hw⟩ h1
  obtain ⟨t, ht, hs, he⟩ := truth_is (raw := raw) hw 3 (by decide)
  have hpos := t.size_pos
  have hfl := t.flat_len
  have hends := ends_ok t ht.ok (by omega)
  have hp := picked_is h1 (m := (t.size : Int)) (by omega)
  have p0 := pk_lo a1 (m := (t.size : Int)) (by omega)
  have p1 := pk_hi a1 (m := (t.size : Int)) (by omega)
  generalize pk a1 (t.size : Int) = m at *
  have hcut := ends_cut t ht.ok (by omega) m.toNat (by omega)
  have hmore := ends_more t ht.ok (by omega) ⟨11, 0⟩
  refine Ev.rounds ?_
  unfold foretellkeep_PolishOne.f
  refine Ev.bind he ?_
  rw [hfl, hp]
  refine Ev.bind (Ev.now _) ?_
  simp only [if_pos p0, if_pos (show m ≤ (t.size : Int) by omega)]
  refine Ev.bind hcut ?_
  simp only [if_pos (show ([] : List Op).length + t.size < 8796093022208 by simp only [List.length_nil]; omega), List.nil_append]
  refine Ev.bind (Ev.now _) ?_
  rw [hfl]
  simp only [if_pos (show t.size < 8796093022208 by omega)]
  refine Ev.bind hmore ?_
  refine Ev.bind hends ?_
  simp only [if_true]
  exact Ev.now _
end Go.Proofs.YtlejdidngmjicaaDoor.Q
