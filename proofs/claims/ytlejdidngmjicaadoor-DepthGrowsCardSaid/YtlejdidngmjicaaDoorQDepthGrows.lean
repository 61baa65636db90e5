/- The plain law of DepthGrows: a term is one deeper than its deepest part, and no deeper than it is long. -/
import Derived.Test.YtlejdidngmjicaaDoorLDepthGrows
import Derived.Test.YtlejdidngmjicaaDoorQGen
import Derived.Test.YtlejdidngmjicaaDoorQEndsNest
namespace Go.Proofs.YtlejdidngmjicaaDoor.Q
open Go.RowKit Go.Proofs.YtlejdidngmjicaaDoorW.PrintWords Go.Proofs.YtlejdidngmjicaaDoorW.PrintMore Go.Proofs.YtlejdidngmjicaaDoor.P
set_option linter.unusedVariables false
def Tm.depth : Tm → Nat
  | .leaf _ => 1
  | .un _ a => a.depth + 1
  | .bin _ a b => max a.depth b.depth + 1
theorem Tm.depth_le : ∀ t : Tm, 1 ≤ t.depth ∧ t.depth ≤ t.size
  | .leaf _ => ⟨Nat.le_refl _, Nat.le_refl _⟩
  | .un _ a => by have := a.depth_le; simp only [Tm.depth, Tm.size]; omega
  | .bin _ a b => by have := a.depth_le; have := b.depth_le; simp only [Tm.depth, Tm.size]; omega
/-- How many of the first m end behind x. -/
def cnt (es : List Int) (m : Nat) (x : Int) : Nat := (es.take m).countP fun e => decide (x < e)
theorem cnt_succ (es : List Int) (m : Nat) (x : Int) (h : m < es.length) : cnt es (m + 1) x = cnt es m x + if x < es[m] then 1 else 0 := by
  unfold cnt
  rw [List.take_succ_eq_append_getElem h, List.countP_append, List.countP_cons, List.countP_nil]
  simp
theorem ends_max (t : Tm) (p : Int) (e : Int) (h : e ∈ t.ends p) : e ≤ p + t.size := by
  obtain ⟨i, hi, rfl⟩ := List.getElem_of_mem h
  exact (nest t p i _ (List.getElem?_eq_getElem hi)).2.1
theorem cnt_le : ∀ (t : Tm) (p : Int) (i : Nat), i < t.size → cnt (t.ends p) (i + 1) (p + i) ≤ t.depth := by
  intro t
  induction t with
  | leaf o =>
    intro p i hi
    simp only [Tm.size] at hi
    obtain rfl : i = 0 := by omega
    simp [cnt, Tm.ends, Tm.depth]
    split <;> omega
  | un o a iha =>
    intro p i hi
    simp only [Tm.size] at hi
    cases i with
    | zero =>
      simp [cnt, Tm.ends, Tm.depth]
      split <;> omega
    | succ i =>
      have := iha (p + 1) i (by omega)
      simp only [cnt, Tm.ends, Tm.depth, List.take_succ_cons, List.countP_cons] at *
      rw [show p + 1 + (i : Int) = p + ((i + 1 : Nat) : Int) by omega] at this
      split <;> omega
  | bin o a b iha ihb =>
    intro p i hi
    simp only [Tm.size] at hi
    cases i with
    | zero =>
      simp [cnt, Tm.ends, Tm.depth]
      split <;> omega
    | succ i =>
      have hA := a.ends_len (p + 1)
      simp only [cnt, Tm.ends, Tm.depth, List.take_succ_cons, List.countP_cons]
      by_cases c : i < a.size
      · have := iha (p + 1) i c
        simp only [cnt] at this
        rw [List.take_append_of_le_length (by omega)]
        rw [show p + 1 + (i : Int) = p + ((i + 1 : Nat) : Int) by omega] at this
        split <;> omega
      · have := ihb (p + 1 + a.size) (i - a.size) (by omega)
        simp only [cnt] at this
        have h0 : (a.ends (p + 1)).countP (fun e => decide (p + ((i + 1 : Nat) : Int) < e)) = 0 := by
          rw [List.countP_eq_zero]
          intro e he
          have := ends_max a (p + 1) e he
          simp
          omega
        rw [List.take_append, hA, List.take_of_length_le (by omega), List.countP_append, h0, show i + 1 - a.size = i - a.size + 1 by omega]
        rw [show p + 1 + (a.size : Int) + ((i - a.size : Nat) : Int) = p + ((i + 1 : Nat) : Int) by omega] at this
        split <;> omega
theorem cnt_hit : ∀ (t : Tm) (p : Int), ∃ i, i < t.size ∧ cnt (t.ends p) (i + 1) (p + i) = t.depth := by
  intro t
  induction t with
  | leaf o =>
    intro p
    exact ⟨0, by simp [Tm.size], by simp [cnt, Tm.ends, Tm.depth]; omega⟩
  | un o a iha =>
    intro p
    obtain ⟨i, hi, h⟩ := iha (p + 1)
    refine ⟨i + 1, by simp only [Tm.size]; omega, ?_⟩
    simp only [cnt, Tm.ends, Tm.depth, List.take_succ_cons, List.countP_cons] at *
    rw [show p + 1 + (i : Int) = p + ((i + 1 : Nat) : Int) by omega] at h
    rw [h, if_pos (by simp; omega)]
  | bin o a b iha ihb =>
    intro p
    have hA := a.ends_len (p + 1)
    by_cases c : b.depth ≤ a.depth
    · obtain ⟨i, hi, h⟩ := iha (p + 1)
      refine ⟨i + 1, by simp only [Tm.size]; omega, ?_⟩
      simp only [cnt, Tm.ends, Tm.depth, List.take_succ_cons, List.countP_cons] at *
      rw [List.take_append_of_le_length (by omega)]
      rw [show p + 1 + (i : Int) = p + ((i + 1 : Nat) : Int) by omega] at h
      rw [h, if_pos (by simp; omega)]
      omega
    · obtain ⟨i, hi, h⟩ := ihb (p + 1 + a.size)
      refine ⟨a.size + i + 1, by simp only [Tm.size]; omega, ?_⟩
      simp only [cnt, Tm.ends, Tm.depth, List.take_succ_cons, List.countP_cons] at *
      have h0 : (a.ends (p + 1)).countP (fun e => decide (p + ((a.size + i + 1 : Nat) : Int) < e)) = 0 := by
        rw [List.countP_eq_zero]
        intro e he
        have := ends_max a (p + 1) e he
        simp
        omega
      rw [List.take_append, hA, List.take_of_length_le (by omega), List.countP_append, h0, show a.size + i + 1 - a.size = i + 1 by omega]
      rw [show p + 1 + (a.size : Int) + (i : Int) = p + ((a.size + i + 1 : Nat) : Int) by omega] at h
      rw [h, if_pos (by simp; omega)]
      omega
theorem depth_is (t : Tm) (h : t.ok) (hs : t.size ≤ 60) : Ev (fun k => polish_Depth.f k t.flat) ((t.depth : Int), 0) := by
  have hfl := t.flat_len
  have hel := t.ends_len 0
  have hle := cnt_le t 0
  obtain ⟨w, hw, hhit⟩ := cnt_hit t 0
  unfold polish_Depth.f
  refine Ev.bind (ends_ok t h hs) ?_
  simp only [if_true, hfl]
  generalize t.ends 0 = es at *
  generalize t.size = n at *
  simp only [Int.zero_add] at hle hhit
  have hl0 : ∀ (d i : Nat) (m : Nat), i + d = n → m ≤ t.depth → (w < i → m = t.depth) → Ev (fun k => polish_Depth.l0 k es (m : Int) (n : Int) (i : Int)) ((t.depth : Int), 0) := by
    intro d
    induction d with
    | zero =>
      intro i m hi hm hwi
      refine Ev.step (f := fun _ => some ((m : Int), (0 : Int))) (fun k => ?_) (ev_some (by rw [hwi (by omega)]))
      simp only [polish_Depth.l0]
      rw [if_neg (by omega)]
    | succ d ih =>
      intro i m hi hm hwi
      have hci := hle i (by omega)
      have hl1 : ∀ (d2 q : Nat), q + d2 = i + 1 → Ev (fun k => polish_Depth.l1 k es (m : Int) (i : Int) (cnt es q (i : Int) : Int) (q : Int) (n : Int) (i : Int)) ((t.depth : Int), 0) := by
        intro d2
        induction d2 with
        | zero =>
          intro q hq
          obtain rfl : q = i + 1 := by omega
          refine Ev.step (f := fun k => polish_Depth.l0 k es ((max m (cnt es (i + 1) (i : Int)) : Nat) : Int) (n : Int) ((i + 1 : Nat) : Int)) (fun k => ?_) (ih (i + 1) _ (by omega) (by omega) (fun hwi2 => ?_))
          · simp only [polish_Depth.l1]
            rw [if_neg (by omega), mx_eq, w64 (n := (i : Int) + 1) (by omega) (by omega)]
            congr 1
            omega
          · by_cases c : w = i
            · subst c
              omega
            · have := hwi (by omega)
              omega
        | succ d2 ih2 =>
          intro q hq
          have hqn : q < es.length := by omega
          have hcs := cnt_succ es q (i : Int) hqn
          have hcq : cnt es q (i : Int) ≤ q := by
            unfold cnt
            have h1 := List.countP_le_length (p := fun e => decide ((i : Int) < e)) (l := es.take q)
            rw [List.length_take] at h1
            omega
          refine Ev.step (f := fun k => polish_Depth.l1 k es (m : Int) (i : Int) (cnt es (q + 1) (i : Int) : Int) ((q + 1 : Nat) : Int) (n : Int) (i : Int)) (fun k => ?_) (ih2 (q + 1) (by omega))
          simp only [polish_Depth.l1]
          rw [if_pos (by omega), if_pos (by omega), if_pos (by omega), rd_eq hqn, w64 (n := (q : Int) + 1) (by omega) (by omega)]
          by_cases c : (i : Int) < es[q]
          · rw [if_pos c] at hcs
            rw [if_pos c, hcs, w64 (n := (cnt es q (i : Int) : Int) + 1) (by omega) (by omega)]
            rfl
          · rw [if_neg c] at hcs
            rw [if_neg c, hcs]
            rfl
      refine Ev.step (f := fun k => polish_Depth.l1 k es (m : Int) (i : Int) ((cnt es 0 (i : Int) : Nat) : Int) ((0 : Nat) : Int) (n : Int) (i : Int)) (fun k => ?_) (hl1 (i + 1) 0 (Nat.zero_add _))
      simp only [polish_Depth.l0]
      rw [if_pos (by omega)]
      simp [cnt]
  exact hl0 n 0 0 (Nat.zero_add _) (Nat.zero_le _) (fun h => by omega)
theorem DepthGrows : P.foretellkeep_DepthGrows.Pur := by
  intro r1 r2 ⟨_, hw1⟩ ⟨_, hw2⟩
  obtain ⟨t1, ht1, hs1, he1⟩ := truth_is (raw := r1) hw1 3 (by decide)
  obtain ⟨t2, ht2, hs2, he2⟩ := truth_is (raw := r2) hw2 3 (by decide)
  have ht3 : TruthT 3 (.bin ⟨8, 0⟩ t1 t2) := .log 8 t1 t2 (.inl rfl) ht1 ht2
  have hd1 := depth_is t1 ht1.ok (by omega)
  have hd2 := depth_is t2 ht2.ok (by omega)
  have hd3 := depth_is (.bin ⟨8, 0⟩ t1 t2) ht3.ok (by simp only [Tm.size]; omega)
  have q1 := t1.depth_le
  have q2 := t2.depth_le
  have f1 := t1.flat_len
  have f2 := t2.flat_len
  have hj : Ev (fun k => foretellkeep_joined.f k 8 [t1.flat, t2.flat]) (Tm.bin ⟨8, 0⟩ t1 t2).flat := by
    unfold foretellkeep_joined.f
    refine Ev.step (f := fun k => foretellkeep_joined.l0 k [t1.flat, t2.flat] ([⟨8, 0⟩] ++ t1.flat) 1) (fun k => ?_) (Ev.step (f := fun k => foretellkeep_joined.l0 k [t1.flat, t2.flat] ([⟨8, 0⟩] ++ t1.flat ++ t2.flat) 2) (fun k => ?_) (Ev.step (f := fun _ => some ([⟨8, 0⟩] ++ t1.flat ++ t2.flat)) (fun k => ?_) (ev_some (by simp [Tm.flat]))))
    · simp only [foretellkeep_joined.l0, show rd_L4 [t1.flat, t2.flat] 0 = t1.flat from rfl, show wrap64 ((0 : Int) + 1) = 1 from w64 (n := (0 : Int) + 1) (by decide) (by decide)]
      rw [if_pos (show (0 : Int) < (([t1.flat, t2.flat] : List (List Op)).length : Int) from (by decide : (0 : Int) < 2)), if_pos (Int.le_refl 0)]
      exact if_pos (show ([⟨8, 0⟩] : List Op).length + t1.flat.length < 8796093022208 by simp only [List.length_singleton]; omega)
    · simp only [foretellkeep_joined.l0, show rd_L4 [t1.flat, t2.flat] 1 = t2.flat from rfl, show wrap64 ((1 : Int) + 1) = 2 from w64 (n := (1 : Int) + 1) (by decide) (by decide)]
      rw [if_pos (show (1 : Int) < (([t1.flat, t2.flat] : List (List Op)).length : Int) from (by decide : (1 : Int) < 2)), if_pos (by decide : (0 : Int) ≤ 1)]
      exact if_pos (show (([⟨8, 0⟩] : List Op) ++ t1.flat).length + t2.flat.length < 8796093022208 by simp only [List.length_append, List.length_singleton]; omega)
    · simp only [foretellkeep_joined.l0]
      rw [if_neg (by simp)]
  refine Ev.rounds ?_
  unfold foretellkeep_DepthGrows.f
  refine Ev.bind he1 (Ev.bind he2 (Ev.bind hd1 (Ev.bind hd2 (Ev.bind hj (Ev.bind hd3 ?_)))))
  simp only [if_true]
  have e : ((Tm.bin ⟨8, 0⟩ t1 t2).depth : Int) = wrap64 (mx (t1.depth : Int) (t2.depth : Int) + 1) := by
    rw [mx_eq, w64 (by omega) (by omega)]
    simp only [Tm.depth]
    omega
  rw [e]
  simp only [if_true, if_pos (show (t1.depth : Int) ≥ 1 by omega)]
  rw [f1]
  exact ev_some (decide_eq_true (by omega))
end Go.Proofs.YtlejdidngmjicaaDoor.Q
