/- The plain law of TapeSize: a record's length, and what is refused. -/
import Derived.Test.YtaologjglealoaaLTapeSize
import Derived.Test.YtaologjglealoaaQTape
namespace Go.Proofs.Ytaologjglealoaa.Q
open Go.RowKit Go.Proofs.YtaologjglealoaaW.PrintWords Go.Proofs.YtaologjglealoaaW.PrintMore Go.Proofs.Ytaologjglealoaa.P
set_option linter.unusedVariables false
/-- A number that may not be written ends it. -/
theorem write_bad {r : List Int} {x : Int} (hr : okn r) (hrl : r.length ≤ 3999) (hx : x < 0 ∨ 2147483647 < x) : Ev (fun k => tape_Write.f k [] 0 (r ++ [x])) (([] : List Int), (0 : Int), (2 : Int)) := by
  have hl : (r ++ [x]).length = r.length + 1 := by simp
  have hloop : ∀ (d i : Nat), i + d = r.length → Ev (fun k => tape_Write.l0 k (p4 (r ++ [x]).length ++ ((r ++ [x]).take i).flatMap p4) (r ++ [x]) ((r ++ [x]).length : Int) (i : Int) [] 0) (([] : List Int), (0 : Int), (2 : Int)) := by
    intro d
    induction d with
    | zero =>
      intro i hi
      obtain rfl : i = r.length := by omega
      refine Ev.step (f := fun _ => some (([] : List Int), (0 : Int), (2 : Int))) (fun k => ?_) (Ev.now _)
      simp only [tape_Write.l0]
      have hg : rd (r ++ [x]) (r.length : Int) = x := by rw [rd_eq (by omega)]; simp
      rw [if_pos (by omega), if_pos (by omega), if_pos (by omega), hg]
      rcases hx with h | h
      · rw [if_pos h]
      · rw [if_neg (by omega), if_pos (by omega)]
    | succ d ih =>
      intro i hi
      have hil : i < r.length := by omega
      have hg : (r ++ [x])[i]'(by omega) = r[i] := List.getElem_append_left hil
      obtain ⟨h0, h1⟩ := hr r[i] (List.getElem_mem hil)
      refine Ev.step (f := fun k => tape_Write.l0 k (p4 (r ++ [x]).length ++ ((r ++ [x]).take (i + 1)).flatMap p4) (r ++ [x]) ((r ++ [x]).length : Int) ((i + 1 : Nat) : Int) [] 0) (fun k => ?_) (ih (i + 1) (by omega))
      simp only [tape_Write.l0]
      have hfl : (((r ++ [x]).take i).flatMap p4).length ≤ 4 * 4000 := by rw [flat_len, List.length_take]; omega
      rw [if_pos (by omega), if_pos (by omega), if_pos (by omega), rd_eq (by omega), hg, if_neg (by omega), if_neg (by omega), put_is (by rw [List.length_append, p4_len]; omega), Option.bind_some, w64 (by omega) (by omega)]
      rw [List.append_assoc, List.take_succ_eq_append_getElem (by omega), List.flatMap_append, hg]
      simp only [List.flatMap_cons, List.flatMap_nil, List.append_nil]
      rw [show ((i : Int) + 1) = ((i + 1 : Nat) : Int) by omega]
  refine Ev.congr (f := fun k => tape_Write.l0 k (p4 (r ++ [x]).length ++ ((r ++ [x]).take 0).flatMap p4) (r ++ [x]) ((r ++ [x]).length : Int) ((0 : Nat) : Int) [] 0) (fun k => ?_) (hloop r.length 0 (by omega))
  unfold tape_Write.f
  rw [open_is (by decide) (by simp) (by simp), Option.bind_some]
  simp only [if_true]
  rw [if_neg (by omega), put_is (by decide), Option.bind_some, List.nil_append, List.take_zero, List.flatMap_nil, List.append_nil]
  rfl
theorem TapeSize : P.foretellkeep_TapeSize.Pur := by
  intro l a1 hl h1
  obtain ⟨hlen, hw⟩ := hl
  have hmx : maxLen = 9223372036854775807 := rfl
  have hr := rcd_ok l
  have hrl := rcd_len l
  have hrec := record_is hw hlen
  generalize rcd l = r at *
  refine Ev.rounds ?_
  unfold foretellkeep_TapeSize.f
  refine Ev.bind hrec ?_
  rw [picked_is h1 (by decide)]
  refine Ev.bind (Ev.now _) ?_
  have s0 := pk_lo a1 (m := 4) (by decide)
  have s1 := pk_hi a1 (m := 4) (by decide)
  have hc3 : ([1, 2, 3] : List Int).length = 3 := rfl
  refine Ev.bind (write_ok (t := [1, 2, 3]) (s := pk a1 4) (r := r) s0 (by rw [hc3]; omega) hr (by omega) (by rw [hc3]; omega)) ?_
  simp only [if_pos (show ([] : List Int).length + r.length < 17592186044416 by simp only [List.length_nil]; omega), List.nil_append]
  refine Ev.bind (Ev.now _) ?_
  simp only [if_pos (show r.length < 17592186044416 by omega)]
  refine Ev.bind (write_bad hr (by omega) (.inl (by decide))) ?_
  refine Ev.bind (Ev.now _) ?_
  simp only [if_pos (show r.length < 17592186044416 by omega)]
  refine Ev.bind (write_bad hr (by omega) (.inr (by decide))) ?_
  have hbig : ∀ k, tape_Write.f k [] 0 (List.replicate 4001 0) = some (([] : List Int), (0 : Int), (1 : Int)) := by
    intro k
    unfold tape_Write.f
    rw [open_is (by decide) (by simp) (by simp), Option.bind_some, List.length_replicate]
    simp only [if_true]
    rw [if_pos (by decide)]
  simp only [if_pos (show (4001 : Nat) ≤ 35184372088832 by decide)]
  refine Ev.bind ⟨0, fun k _ => hbig k⟩ ?_
  have hst : ∀ k, tape_Write.f k [] 1 r = some (([] : List Int), (0 : Int), (9 : Int)) := by
    intro k
    unfold tape_Write.f tape_open.f
    rw [if_neg (by decide), if_pos (by simp), Option.bind_some]
    simp
  refine Ev.bind ⟨0, fun k _ => hst k⟩ ?_
  simp only [if_true]
  have hel : ([1, 2, 3] ++ enc r).length = 11 + 4 * r.length := by rw [List.length_append, enc_len, hc3]; omega
  rw [hel, w64 (n := 4 * (r.length : Int)) (by omega) (by omega), w64 (by omega) (by omega), if_pos (by omega)]
  refine Ev.bind (Ev.now _) ?_
  simp only [if_true]
  exact Ev.now _
end Go.Proofs.Ytaologjglealoaa.Q
