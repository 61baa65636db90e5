/- The law BeginApart: a formula and its Not begin at all claims of the first state, each claim with one of them. -/
import Derived.Test.YtbokbbcoekeoaaaDoorKLBeginApart
import Derived.Test.YtbokbbcoekeoaaaDoorK25
import Derived.Test.YtbokbbcoekeoaaaDoorK5
namespace Go.Proofs.YtbokbbcoekeoaaaDoor.Q
open Go.RowKit Go.Proofs.YtbokbbcoekeoaaaDoorW.PrintWords Go.Proofs.YtbokbbcoekeoaaaDoorW.PrintMore Go.Proofs.YtbokbbcoekeoaaaDoor.P
set_option linter.unusedVariables false
theorem filt_len (p : Nat → Bool) : ∀ l : List Nat, (l.filter p).length + (l.filter fun x => !p x).length = l.length
  | [] => rfl
  | x :: l => by
    have := filt_len p l
    cases q : p x with
    | true => rw [List.filter_cons_of_pos q, List.filter_cons_of_neg (by simp [q]), List.length_cons, List.length_cons]; omega
    | false => rw [List.filter_cons_of_neg (by simp [q]), List.filter_cons_of_pos (by simp [q]), List.length_cons, List.length_cons]; omega
/-- Eight numbers: 1 at the places that were met, else 0. -/
structure Seen (s : List Int) (P : Nat → Prop) : Prop where
  len : s.length = 8
  one : ∀ j, j < 8 → P j → rd s (j : Int) = 1
  nil : ∀ j, j < 8 → ¬ P j → rd s (j : Int) = 0
theorem Seen.zero : Seen (List.replicate 8 0) (fun _ => False) := ⟨by simp, fun j _ h => h.elim, fun j hj _ => by rw [rd_eq (by simpa using hj), List.getElem_replicate]⟩
theorem Seen.congr {s : List Int} {P Q : Nat → Prop} (h : Seen s P) (e : ∀ j, P j ↔ Q j) : Seen s Q := ⟨h.len, fun j hj hq => h.one j hj ((e j).mpr hq), fun j hj hq => h.nil j hj (fun c => hq ((e j).mp c))⟩
theorem Seen.put {s : List Int} {P : Nat → Prop} (h : Seen s P) {q : Nat} (hq : q < 8) (hn : ¬ P q) : Seen (s.set q (wrap64 (rd s (q : Int) + 1))) (fun j => P j ∨ j = q) := by
  have hl := h.len
  have h0 := h.nil q hq hn
  have e : wrap64 (rd s (q : Int) + 1) = 1 := by rw [h0]; exact w64 (by decide) (by decide)
  rw [e]
  refine ⟨by rw [List.length_set]; exact hl, fun j hj hp => ?_, fun j hj hp => ?_⟩
  · rw [rd_eq (by rw [List.length_set]; omega), List.getElem_set]
    by_cases c : q = j
    · rw [if_pos c]
    · rw [if_neg c, ← rd_eq (by omega)]
      exact h.one j hj (hp.resolve_right (fun x => c x.symm))
  · rw [rd_eq (by rw [List.length_set]; omega), List.getElem_set, if_neg (fun c => hp (.inr c.symm)), ← rd_eq (by omega)]
    exact h.nil j hj (fun x => hp (.inl x))
theorem nodup_take {l : List Nat} (h : l.Nodup) {i : Nat} (hi : i < l.length) : l[i] ∉ l.take i := by
  intro hm
  obtain ⟨j, hj, e⟩ := List.getElem_of_mem hm
  rw [List.length_take] at hj
  rw [List.getElem_take] at e
  exact List.pairwise_iff_getElem.mp h j i (by omega) hi (by omega) e
theorem take_mem {l : List Nat} {i : Nat} (hi : i < l.length) (j : Nat) : j ∈ l.take (i + 1) ↔ (j ∈ l.take i ∨ j = l[i]) := by
  rw [List.take_add_one, List.getElem?_eq_getElem hi, Option.toList_some, List.mem_append, List.mem_singleton]
def spots (n : Int) (l : List Nat) : List Sp := l.map fun q : Nat => (⟨n, (q : Int)⟩ : Sp)
theorem spots_get {n : Int} {l : List Nat} {i : Nat} (h : i < l.length) : rd_T45 (spots n l) (i : Int) = ⟨n, ((l[i] : Nat) : Int)⟩ := by
  rw [rdSp (by unfold spots; rw [List.length_map]; exact h)]
  simp [spots]
section
variable {n : Int} {A B : List Nat} {T : Nat}
theorem ap_l2 {s : List Int} (hT : T = 1 ∨ T = 2 ∨ T = 4 ∨ T = 8) (hs : Seen s (fun j => j < T)) : ∀ (d i : Nat), i + d = 8 → Ev (fun k => foretellkeep_BeginApart.l2 k 0 0 0 s (T : Int) (i : Int)) true := by
  have hl := hs.len
  intro d
  induction d with
  | zero =>
    intro i hi
    refine Ev.step (f := fun _ => some true) (fun k => ?_) (Ev.now _)
    rw [foretellkeep_BeginApart.l2, if_neg (by omega), if_pos rfl, if_pos rfl, if_pos rfl]
    rcases hT with rfl | rfl | rfl | rfl <;> rfl
  | succ d ih =>
    intro i hi
    refine Ev.step (fun k => ?_) (ih (i + 1) (by omega))
    rw [foretellkeep_BeginApart.l2, if_pos (by omega), w64 (n := (i : Int) + 1) (by omega) (by omega)]
    by_cases c : i < T
    · rw [if_pos (by omega), if_pos (by omega), if_pos (by omega), if_pos (hs.one i (by omega) c), if_neg (by omega)]
      rfl
    · rw [if_neg (by omega), if_pos (by omega), if_pos (by omega), if_pos (by omega), if_pos (hs.nil i (by omega) c)]
      rfl
theorem ap_l1 (hT : T = 1 ∨ T = 2 ∨ T = 4 ∨ T = 8) (hB : B.Nodup) (hB8 : ∀ q ∈ B, q < 8) (hAB : ∀ q ∈ B, q ∉ A) (hall : ∀ j, (j ∈ A ∨ j ∈ B) ↔ j < T) (hlen : A.length + B.length = T) : ∀ (d i : Nat) (s : List Int), i + d = B.length → Seen s (fun j => j ∈ A ∨ j ∈ B.take i) → Ev (fun k => foretellkeep_BeginApart.l1 k (spots n A) 0 (spots n B) 0 n 0 s (i : Int)) true := by
  have la : (spots n A).length = A.length := List.length_map _
  have lb : (spots n B).length = B.length := List.length_map _
  have hT8 : T ≤ 8 := by omega
  intro d
  induction d with
  | zero =>
    intro i s hi hs
    rw [List.take_of_length_le (by omega)] at hs
    refine Ev.step (fun k => ?_) (ap_l2 hT (hs.congr hall) 8 0 (by decide))
    rw [foretellkeep_BeginApart.l1, if_neg (by omega), la, lb, w64 (n := (A.length : Int) + (B.length : Int)) (by omega) (by omega), show (A.length : Int) + (B.length : Int) = (T : Int) by omega]
    rfl
  | succ d ih =>
    intro i s hi hs
    have hil : i < B.length := by omega
    have hm := List.getElem_mem hil
    have h8 := hB8 _ hm
    have hl := hs.len
    have hnx := hs.put h8 (fun c => c.elim (hAB _ hm) (nodup_take hB hil))
    refine Ev.step (fun k => ?_) (ih (i + 1) _ (by omega) (hnx.congr fun j => by rw [take_mem hil, or_assoc]))
    rw [foretellkeep_BeginApart.l1, if_pos (by omega), if_pos (by omega), spots_get hil, if_pos rfl, if_neg (by simp only; omega), if_neg (by simp only; omega), if_pos (by simp only; omega), if_pos (by simp only; omega), w64 (n := (i : Int) + 1) (by omega) (by omega)]
    rfl
theorem ap_l0 (hT : T = 1 ∨ T = 2 ∨ T = 4 ∨ T = 8) (hA : A.Nodup) (hA8 : ∀ q ∈ A, q < 8) (hB : B.Nodup) (hB8 : ∀ q ∈ B, q < 8) (hAB : ∀ q ∈ B, q ∉ A) (hall : ∀ j, (j ∈ A ∨ j ∈ B) ↔ j < T) (hlen : A.length + B.length = T) : ∀ (d i : Nat) (s : List Int), i + d = A.length → Seen s (fun j => j ∈ A.take i) → Ev (fun k => foretellkeep_BeginApart.l0 k (spots n A) 0 (spots n B) 0 n 0 s (i : Int)) true := by
  have la : (spots n A).length = A.length := List.length_map _
  have hT8 : T ≤ 8 := by omega
  intro d
  induction d with
  | zero =>
    intro i s hi hs
    rw [List.take_of_length_le (by omega)] at hs
    refine Ev.step (fun k => ?_) (ap_l1 (n := n) hT hB hB8 hAB hall hlen B.length 0 s (Nat.zero_add _) (hs.congr fun j => by simp))
    rw [foretellkeep_BeginApart.l0, if_neg (by omega)]
    rfl
  | succ d ih =>
    intro i s hi hs
    have hil : i < A.length := by omega
    have hm := List.getElem_mem hil
    have h8 := hA8 _ hm
    have hl := hs.len
    have hnx := hs.put h8 (nodup_take hA hil)
    refine Ev.step (fun k => ?_) (ih (i + 1) _ (by omega) (hnx.congr fun j => (take_mem hil j).symm))
    rw [foretellkeep_BeginApart.l0, if_pos (by omega), if_pos (by omega), spots_get hil, if_pos rfl, if_neg (by simp only; omega), if_neg (by simp only; omega), if_pos (by simp only; omega), if_pos (by simp only; omega), w64 (n := (i : Int) + 1) (by omega) (by omega)]
    rfl
end
theorem BeginApart : P.foretellkeep_BeginApart.Pur := by
  intro a b c d e f l raw hw hraw
  obtain ⟨vs, rs, t, hT, ho, hk, sf, tf⟩ := task_is hw hraw.2 (tp := 3) (by decide) (by decide)
  have hk2 : TaskOk vs rs ownProps (.un ⟨10, 0⟩ t) := ⟨hk.m, hk.p, FormT.not t hk.f, by rw [Tm.size]; omega, by rw [tempo_not]; exact hk.t⟩
  have hb1 := begin_is hk
  have hb2 := begin_is hk2
  rw [tempo_not] at hb2
  have hj := joined1 10 t (by omega)
  obtain ⟨L, hL⟩ : ∃ L, L = ownProps.map (tr (valS vs (frst vs))) := ⟨_, rfl⟩
  rw [← hL] at hb1 hb2
  have hp : 2 ^ t.tempo = 1 ∨ 2 ^ t.tempo = 2 ∨ 2 ^ t.tempo = 4 ∨ 2 ^ t.tempo = 8 := by
    have : t.tempo = 0 ∨ t.tempo = 1 ∨ t.tempo = 2 ∨ t.tempo = 3 := by omega
    rcases this with h | h | h | h <;> rw [h] <;> decide
  have hn : ∀ q : Nat, tval L (bit (q : Int)) 0 (.un ⟨10, 0⟩ t) = !(tval L (bit (q : Int)) 0 t) := fun q => by rw [tval, if_pos rfl]
  have nd : ∀ p : Nat → Bool, ((List.range (2 ^ t.tempo)).filter p).Nodup := fun p => List.nodup_range.sublist List.filter_sublist
  have h0 := ap_l0 (n := frst vs) (A := begQ L t (2 ^ t.tempo)) (B := begQ L (.un ⟨10, 0⟩ t) (2 ^ t.tempo)) (T := 2 ^ t.tempo) hp (nd _) (fun q hq => by have := List.mem_range.mp (List.mem_filter.mp hq).1; omega) (nd _) (fun q hq => by have := List.mem_range.mp (List.mem_filter.mp hq).1; omega) (fun q hq hq2 => by
    have h1 := (List.mem_filter.mp hq).2
    have h2 := (List.mem_filter.mp hq2).2
    rw [hn] at h1
    rw [h2] at h1
    cases h1) (fun j => by
    unfold begQ
    rw [List.mem_filter, List.mem_filter, List.mem_range, hn]
    constructor
    · rintro (h | h) <;> exact h.1
    · intro h
      cases q : tval L (bit (j : Int)) 0 t with
      | true => exact .inr ⟨h, rfl⟩
      | false => exact .inl ⟨h, rfl⟩) (by
    have := filt_len (fun q => !(tval L (bit (q : Int)) 0 t)) (List.range (2 ^ t.tempo))
    rw [List.length_range] at this
    unfold begQ
    simp only [hn]
    exact this) _ 0 (List.replicate 8 0) (Nat.zero_add _) (Seen.zero.congr fun j => by simp)
  refine Ev.rounds (r := true) ?_
  unfold foretellkeep_BeginApart.f
  refine Ev.bind hT (Ev.bind hj (Ev.bind hb1 (Ev.bind hb2 (Ev.bind (first_is ho.m) ?_))))
  simp only
  exact h0
end Go.Proofs.YtbokbbcoekeoaaaDoor.Q
