-- PACKED by pack.py of this repo: QKept
import Derived.Test.YtobgkjdchpokgaaK12
import Derived.Test.YtobgkjdchpokgaaK3
section
namespace Go.Proofs.Ytobgkjdchpokgaa.Q
open Go.RowKit Go.Proofs.YtobgkjdchpokgaaW.PrintWords Go.Proofs.YtobgkjdchpokgaaW.PrintMore Go.Proofs.Ytobgkjdchpokgaa.P
set_option linter.unusedVariables false
inductive Bin : Nat → Nat → List Nat → Prop
  | nil (u : Nat) : Bin u 0 []
  | even {u m : Nat} {L : List Nat} (h : Bin (2 * u) m L) : Bin u (2 * m) L
  | odd {u m : Nat} {L : List Nat} (h : Bin (2 * u) m L) : Bin u (2 * m + 1) (u :: L)
theorem Bin.sum {u m : Nat} {L : List Nat} (h : Bin u m L) : L.sum = u * m := by
  induction h with
  | nil u => simp
  | @even u m L h ih => rw [ih, Nat.mul_comm 2 u, Nat.mul_assoc]
  | @odd u m L h ih => rw [List.sum_cons, ih, Nat.mul_add, Nat.mul_one, Nat.add_comm, Nat.mul_comm 2 u, Nat.mul_assoc]
theorem Bin.ge {u m : Nat} {L : List Nat} (h : Bin u m L) : ∀ x ∈ L, u ≤ x := by
  induction h with
  | nil u => intro x hx; cases hx
  | @even u m L h ih => intro x hx; have := ih x hx; omega
  | @odd u m L h ih =>
    intro x hx
    rcases List.mem_cons.mp hx with rfl | hx
    · omega
    · have := ih x hx; omega
theorem Bin.dvd {u m : Nat} {L : List Nat} (h : Bin u m L) : ∀ x ∈ L, u ∣ x := by
  induction h with
  | nil u => intro x hx; cases hx
  | @even u m L h ih => intro x hx; exact Nat.dvd_trans ⟨2, Nat.mul_comm _ _⟩ (ih x hx)
  | @odd u m L h ih =>
    intro x hx
    rcases List.mem_cons.mp hx with rfl | hx
    · exact Nat.dvd_refl _
    · exact Nat.dvd_trans ⟨2, Nat.mul_comm _ _⟩ (ih x hx)
theorem Bin.rise {u m : Nat} {L : List Nat} (h : Bin u m L) (hu : 0 < u) : L.Pairwise (· < ·) := by
  induction h with
  | nil u => exact List.Pairwise.nil
  | @even u m L h ih => exact ih (by omega)
  | @odd u m L h ih =>
    refine List.pairwise_cons.mpr ⟨fun x hx => ?_, ih (by omega)⟩
    have := h.ge x hx
    omega
theorem Bin.zero {u : Nat} {L : List Nat} (h : Bin u 0 L) (hu : 0 < u) : L = [] := by
  match L, h with
  | [], _ => rfl
  | x :: L, h =>
    have h1 := h.sum
    have h2 := h.ge x List.mem_cons_self
    rw [List.sum_cons] at h1
    omega
theorem rd_end (P : List (List Int)) (a b : List Int) : rd_L1 (P ++ [a, b]) ((P.length + 1 : Nat) : Int) = b := by
  rw [rdL (by simp)]
  simp
theorem rd_last (P : List (List Int)) (a b : List Int) : rd_L1 (P ++ [a, b]) (P.length : Int) = a := by
  rw [rdL (by simp)]
  simp
theorem perm_two (P : List (List Int)) (a b : List Int) : ((P ++ [srt (a ++ b)]).flatten).Perm ((P ++ [a, b]).flatten) := by
  simp only [List.flatten_append, List.flatten_cons, List.flatten_nil, List.append_nil]
  exact List.Perm.append_left _ (srt_perm _)
theorem carry_is {u m : Nat} {L : List Nat} (hb : Bin u m L) : ∀ (R : List (List Int)) (b : List Int), R.map List.length = L → b.length = u → 0 < u → (∀ r ∈ b :: R, r.Pairwise (· < ·)) → ((b :: R).reverse.flatten).Nodup → ((b :: R).reverse.flatten).length ≤ 20000 → R.length < 10000000 →
    ∃ rn, Ev (fun k => store_Add.l0 k ((b :: R).length : Int) (b :: R).reverse) (([] : List Int), rn, true, 0) ∧ rn.flatten.Perm ((b :: R).reverse.flatten) ∧ (∀ r ∈ rn, r.Pairwise (· < ·)) ∧ Bin u (m + 1) ((rn.map List.length).reverse) := by
  induction hb with
  | nil u =>
    intro R b hR hbl hu hr hn ht hR2
    have e : R = [] := List.map_eq_nil_iff.mp hR
    subst e
    refine ⟨[b], Ev.step (f := fun _ => some (([] : List Int), [b], true, 0)) (fun k => ?_) (Ev.now _), List.Perm.refl _, hr, ?_⟩
    · rw [store_Add.l0, if_neg (by simp)]
      rfl
    · simp only [List.map_cons, List.map_nil, List.reverse_cons, List.reverse_nil, List.nil_append, hbl]
      exact Bin.odd (Bin.nil _)
  | @even u m L h ih =>
    intro R b hR hbl hu hr hn ht hR2
    refine ⟨(b :: R).reverse, ?_, List.Perm.refl _, fun r hr' => hr r (List.mem_reverse.mp hr'), ?_⟩
    · refine Ev.step (f := fun _ => some (([] : List Int), (b :: R).reverse, true, 0)) (fun k => ?_) (Ev.now _)
      match R, hR with
      | [], _ =>
        rw [store_Add.l0, if_neg (by simp)]
      | a :: R, hR =>
        have ha : a.length ∈ L := by rw [← hR]; simp
        have := h.ge _ ha
        rw [List.length_cons] at hR2
        rw [List.length_cons, List.length_cons, List.reverse_cons, List.reverse_cons, List.append_assoc, List.singleton_append]
        have e1 : wrap64 (((R.length + 1 + 1 : Nat) : Int) - 1) = ((R.reverse.length + 1 : Nat) : Int) := by rw [List.length_reverse, show ((R.length + 1 + 1 : Nat) : Int) - 1 = ((R.length + 1 : Nat) : Int) by omega]; exact w64 (by omega) (by omega)
        have e2 : wrap64 (((R.length + 1 + 1 : Nat) : Int) - 2) = (R.reverse.length : Int) := by rw [List.length_reverse, show ((R.length + 1 + 1 : Nat) : Int) - 2 = (R.length : Int) by omega]; exact w64 (by omega) (by omega)
        have e3 : ((R.reverse ++ [a, b]).length : Int) = (R.reverse.length : Int) + 2 := by simp
        rw [store_Add.l0, if_pos (by omega), e1, e2, e3, if_pos (by omega), if_pos (by omega), if_pos (by omega), if_pos (by omega), rd_end, rd_last, if_neg (by omega)]
    · rw [List.map_reverse, List.reverse_reverse, List.map_cons, hR, hbl]
      exact Bin.odd h
  | @odd u m L h ih =>
    intro R b hR hbl hu hr hn ht hR2
    match R, hR with
    | a :: R, hR =>
      rw [List.map_cons, List.cons.injEq] at hR
      obtain ⟨ha, hR⟩ := hR
      rw [List.length_cons] at hR2
      have e0 : (b :: a :: R).reverse = R.reverse ++ [a, b] := by simp
      have hp := perm_two R.reverse a b
      rw [e0] at hn ht ⊢
      have hab : (a ++ b).Nodup := by
        rw [List.flatten_append] at hn
        have := (List.nodup_append.mp hn).2.1
        simpa using this
      have hra := hr a (by simp)
      have hrb := hr b (by simp)
      have e4 : (srt (a ++ b) :: R).reverse = R.reverse ++ [srt (a ++ b)] := by simp
      obtain ⟨rn, h1, h2, h3, h4⟩ := ih R (srt (a ++ b)) hR (by rw [srt_len, List.length_append]; omega) (by omega) (fun r hr' => by
        rcases List.mem_cons.mp hr' with rfl | hr'
        · exact nodup_rise hab
        · exact hr r (by simp [hr'])) (by rw [e4]; exact hp.nodup_iff.mpr hn) (by rw [e4]; exact Nat.le_trans (Nat.le_of_eq hp.length_eq) ht) (by omega)
      rw [e4] at h1 h2
      refine ⟨rn, ?_, h2.trans hp, h3, ?_⟩
      · have e1 : wrap64 (((R.length + 1 + 1 : Nat) : Int) - 1) = ((R.reverse.length + 1 : Nat) : Int) := by rw [List.length_reverse, show ((R.length + 1 + 1 : Nat) : Int) - 1 = ((R.length + 1 : Nat) : Int) by omega]; exact w64 (by omega) (by omega)
        have e2 : wrap64 (((R.length + 1 + 1 : Nat) : Int) - 2) = (R.reverse.length : Int) := by rw [List.length_reverse, show ((R.length + 1 + 1 : Nat) : Int) - 2 = (R.length : Int) by omega]; exact w64 (by omega) (by omega)
        have e3 : ((R.reverse ++ [a, b]).length : Int) = (R.reverse.length : Int) + 2 := by simp
        have e5 : (R.reverse ++ [a, b]).take ((R.reverse.length : Nat) : Int).toNat = R.reverse := by rw [Int.toNat_natCast]; simp
        have hl : a.length + b.length ≤ 100000 := by
          rw [List.flatten_append, List.length_append] at ht
          simp at ht
          omega
        have e6 : (((srt (a ++ b) :: R).length : Nat) : Int) = ((R.reverse.length + 1 : Nat) : Int) := by simp
        rw [e6] at h1
        refine Ev.step (f := fun k => (store_merge.f k a b).bind fun t => store_Add.l0 k ((R.reverse.length + 1 : Nat) : Int) (R.reverse ++ [t])) (fun k => ?_) (Ev.bind (merge_is hl hra hrb hab) h1)
        rw [List.length_cons, List.length_cons, store_Add.l0, if_pos (by omega), e1, e2, e3, if_pos (by omega), if_pos (by omega), if_pos (by omega), if_pos (by omega), rd_end, rd_last, if_pos (by omega)]
        refine congrArg _ (funext fun t => ?_)
        rw [if_pos (by omega), e5, Option.bind_some, if_pos (by rw [List.length_reverse]; omega)]
      · rw [show 2 * m + 1 + 1 = 2 * (m + 1) by omega]
        exact Bin.even h4
structure Kept (lo : List Int) (rn : List (List Int)) (ks : List Int) : Prop where
  sane : Sane lo rn
  perm : (allK lo rn).Perm ks
  bin : ∃ m, Bin 8 m ((rn.map List.length).reverse) ∧ ks.length = 8 * m + lo.length
theorem kept_nil : Kept [] [] [] := ⟨⟨by simp, by simp, by simp, by simp [allK], by simp [allK], by simp [allK]⟩, List.Perm.refl _, 0, Bin.nil _, rfl⟩
theorem add_old {lo : List Int} {rn : List (List Int)} {ks : List Int} (h : Kept lo rn ks) {n : Int} (hn : keyOk n) (hm : n ∈ ks) : Ev (fun k => store_Add.f k lo rn n) (lo, rn, false, 0) := by
  have hh := has_is' h.sane hn
  rw [decide_eq_true (h.perm.mem_iff.mpr hm)] at hh
  refine Ev.bind hh ?_
  simp only [if_true]
  exact Ev.bind (own_is h.sane) (Ev.now _)
theorem add_new {lo : List Int} {rn : List (List Int)} {ks : List Int} (h : Kept lo rn ks) {n : Int} (hn : keyOk n) (hm : n ∉ ks) (hl : ks.length < 20000) : ∃ lo' rn', Ev (fun k => store_Add.f k lo rn n) (lo', rn', true, 0) ∧ Kept lo' rn' (ks ++ [n]) := by
  have hh := has_is' h.sane hn
  rw [decide_eq_false (fun c => hm (h.perm.mem_iff.mp c))] at hh
  obtain ⟨m, hb, hkl⟩ := h.bin
  have hf := h.sane.few
  have hlen := h.perm.length_eq
  have hruns := h.sane.runs
  have hp1 : (allK (lo ++ [n]) rn).Perm (ks ++ [n]) := by
    unfold allK
    rw [List.append_assoc]
    refine (List.Perm.append_left lo List.perm_append_comm).trans ?_
    rw [← List.append_assoc]
    exact List.Perm.append_right _ h.perm
  have hkey : ∀ x ∈ ks ++ [n], keyOk x := fun x hx => by
    rcases List.mem_append.mp hx with hx | hx
    · exact h.sane.key x (h.perm.mem_iff.mpr hx)
    · rw [List.mem_singleton.mp hx]; exact hn
  have hnd : (ks ++ [n]).Nodup := List.nodup_append.mpr ⟨h.perm.nodup_iff.mp h.sane.nd, by simp, fun a ha b hb' e => by rw [List.mem_singleton.mp hb'] at e; rw [e] at ha; exact hm ha⟩
  have hlen2 : (ks ++ [n]).length ≤ 20000 := by rw [List.length_append, List.length_singleton]; omega
  have hend : ∀ {lo' : List Int} {rn' : List (List Int)}, Ev (fun k => if (((lo ++ [n] : List Int)).length : Int) < 8 then (some (lo ++ [n], rn, true, 0) : Option (List Int × List (List Int) × Bool × Int)) else ((slices_Sort_int_int.f (lo ++ [n])).bind fun t279 => (if rn.length < 5864062014805 then ((some (rn ++ [t279] : List (List Int))).bind fun y280 => (store_Add.l0 k (y280.length : Int) y280)) else (none)))) (lo', rn', true, 0) → Ev (fun k => store_Add.f k lo rn n) (lo', rn', true, 0) := fun hq => by
    refine Ev.bind hh ?_
    simp only [if_true]
    refine Ev.bind (own_is h.sane) ?_
    simp only [Bool.false_eq_true, if_false]
    refine Ev.bind (keys_is h.sane) ?_
    refine Ev.congr (fun k => ?_) hq
    rw [if_neg (by omega), if_pos (by omega), Option.bind_some]
  by_cases c : lo.length + 1 < 8
  · refine ⟨lo ++ [n], rn, hend ?_, ⟨⟨by rw [List.length_append]; exact c, h.sane.ne, h.sane.rise, ?_, ?_, ?_⟩, hp1, m, hb, by simp only [List.length_append, List.length_singleton]; omega⟩⟩
    · refine Ev.congr (fun k => ?_) (Ev.now _)
      rw [if_pos (by rw [List.length_append, List.length_singleton]; omega)]
    · rw [hp1.length_eq]; exact hlen2
    · exact fun x hx => hkey x (hp1.mem_iff.mp hx)
    · exact hp1.nodup_iff.mpr hnd
  · have hnd1 := hp1.nodup_iff.mpr hnd
    have hp2 : ((srt (lo ++ [n]) :: rn.reverse).reverse.flatten).Perm (ks ++ [n]) := by
      rw [List.reverse_cons, List.reverse_reverse, List.flatten_append]
      refine List.Perm.trans ?_ hp1
      simp only [List.flatten_cons, List.flatten_nil, List.append_nil]
      exact (List.Perm.append_left _ (srt_perm _)).trans List.perm_append_comm
    obtain ⟨rn', h1, h2, h3, h4⟩ := carry_is hb rn.reverse (srt (lo ++ [n])) (List.map_reverse) (by rw [srt_len, List.length_append, List.length_singleton]; omega) (by omega) (fun r hr => by
      rcases List.mem_cons.mp hr with rfl | hr
      · exact nodup_rise (List.nodup_append.mp hnd1).1
      · exact h.sane.rise r (List.mem_reverse.mp hr)) (hp2.nodup_iff.mpr hnd) (by rw [hp2.length_eq]; exact hlen2) (by rw [List.length_reverse]; omega)
    have hp3 : (allK [] rn').Perm (ks ++ [n]) := h2.trans hp2
    refine ⟨[], rn', hend ?_, ⟨⟨by simp, ?_, h3, ?_, ?_, ?_⟩, hp3, m + 1, h4, by simp only [List.length_append, List.length_singleton, List.length_nil]; omega⟩⟩
    · rw [List.reverse_cons, List.reverse_reverse] at h1
      refine Ev.congr (fun k => ?_) h1
      rw [if_neg (by rw [List.length_append, List.length_singleton]; omega), sort_is (by rw [List.length_append, List.length_singleton]; omega), Option.bind_some, if_pos (by omega), Option.bind_some]
      simp
    · intro r hr e
      have := h4.ge r.length (by rw [List.mem_reverse]; exact List.mem_map_of_mem hr)
      rw [e] at this
      simp at this
    · rw [hp3.length_eq]; exact hlen2
    · exact fun x hx => hkey x (hp3.mem_iff.mp hx)
    · exact hp3.nodup_iff.mpr hnd
theorem all_l0 {lo : List Int} {rn : List (List Int)} (h : Sane lo rn) : ∀ (d i : Nat), i + d = rn.length → Ev (fun k => store_All.l0 k (srt (lo ++ (rn.take i).flatten)) rn (rn.length : Int) (i : Int)) (srt (allK lo rn), 0) := by
  have hrn := h.runs
  intro d
  induction d with
  | zero =>
    intro i hi
    rw [List.take_of_length_le (by omega)]
    refine Ev.step (f := fun _ => some (srt (allK lo rn), 0)) (fun k => ?_) (Ev.now _)
    rw [store_All.l0, if_neg (by omega)]
    rfl
  | succ d ih =>
    intro i hi
    have hil : i < rn.length := by omega
    have hm := List.getElem_mem hil
    have hih := ih (i + 1) (by omega)
    have hp := pre_len h (i := i + 1) (by omega)
    have hnd : (lo ++ (rn.take (i + 1)).flatten).Nodup := by
      have h2 := h.nd
      unfold allK at h2
      rw [← List.take_append_drop (i + 1) rn, List.flatten_append, ← List.append_assoc] at h2
      exact (List.nodup_append.mp h2).1
    rw [take_flat hil, ← List.append_assoc] at hih hp hnd
    have hpm : (srt (lo ++ (rn.take i).flatten) ++ rn[i]).Perm (lo ++ (rn.take i).flatten ++ rn[i]) := List.Perm.append_right _ (srt_perm _)
    have e : srt (srt (lo ++ (rn.take i).flatten) ++ rn[i]) = srt (lo ++ (rn.take i).flatten ++ rn[i]) := rise_ext (nodup_rise (hpm.nodup_iff.mpr hnd)) (nodup_rise hnd) (fun x => by rw [srt_mem, srt_mem]; exact hpm.mem_iff)
    have hmg := merge_is (x := srt (lo ++ (rn.take i).flatten)) (y := rn[i]) (by rw [srt_len]; rw [List.length_append] at hp; omega) (nodup_rise (List.nodup_append.mp hnd).1) (h.rise _ hm) (hpm.nodup_iff.mpr hnd)
    rw [e] at hmg
    refine Ev.step (f := fun k => (store_merge.f k (srt (lo ++ (rn.take i).flatten)) rn[i]).bind fun t => store_All.l0 k t rn (rn.length : Int) ((i + 1 : Nat) : Int)) (fun k => ?_) (Ev.bind hmg hih)
    rw [store_All.l0, if_pos (by omega), if_pos (by omega), if_pos (by omega), rdL hil, w64 (n := (i : Int) + 1) (by omega) (by omega)]
    rfl
theorem all_is {lo : List Int} {rn : List (List Int)} (h : Sane lo rn) : Ev (fun k => store_All.f k lo rn) (srt (allK lo rn), 0) := by
  have hf := h.few
  have h0 := all_l0 h rn.length 0 (Nat.zero_add _)
  rw [List.take_zero, List.flatten_nil, List.append_nil] at h0
  refine Ev.bind (check_is h) ?_
  simp only [if_true]
  refine Ev.congr (fun k => ?_) h0
  rw [clone_is (by omega), Option.bind_some, sort_is (by omega), Option.bind_some]
  rfl
theorem srt_same {a b : List Int} (h : a.Perm b) (hn : b.Nodup) : srt a = srt b := rise_ext (nodup_rise (h.nodup_iff.mpr hn)) (nodup_rise hn) (fun x => by rw [srt_mem, srt_mem]; exact h.mem_iff)
theorem Kept.nodup {lo : List Int} {rn : List (List Int)} {ks : List Int} (h : Kept lo rn ks) : ks.Nodup := h.perm.nodup_iff.mp h.sane.nd
theorem Kept.all {lo : List Int} {rn : List (List Int)} {ks : List Int} (h : Kept lo rn ks) : Ev (fun k => store_All.f k lo rn) (srt ks, 0) := by
  have := all_is h.sane
  rw [srt_same h.perm h.nodup] at this
  exact this
theorem hasx_is (l : List Int) (n : Int) (hl : l.length ≤ 1000000) : Ev (fun k => foretellkeep_has.f k l n) (decide (n ∈ l)) := by
  have key : ∀ (d i : Nat), i + d = l.length → n ∉ l.take i → Ev (fun k => foretellkeep_has.l0 k l n (i : Int)) (decide (n ∈ l)) := by
    intro d
    induction d with
    | zero =>
      intro i hi hn
      rw [List.take_of_length_le (by omega)] at hn
      rw [decide_eq_false hn]
      refine Ev.step (f := fun _ => some false) (fun k => ?_) (Ev.now _)
      rw [foretellkeep_has.l0, if_neg (by omega)]
    | succ d ih =>
      intro i hi hn
      have hil : i < l.length := by omega
      by_cases c : l[i] = n
      · rw [decide_eq_true (by rw [← c]; exact List.getElem_mem hil)]
        refine Ev.step (f := fun _ => some true) (fun k => ?_) (Ev.now _)
        rw [foretellkeep_has.l0, if_pos (by omega), if_pos (by omega), rd_eq hil, if_pos c]
      · refine Ev.step (f := fun k => foretellkeep_has.l0 k l n ((i + 1 : Nat) : Int)) (fun k => ?_) (ih (i + 1) (by omega) (by
          rw [List.take_add_one, List.getElem?_eq_getElem hil]
          intro hm
          rcases List.mem_append.mp hm with hm | hm
          · exact hn hm
          · exact c (by simpa using (show n = l[i] by simpa using hm).symm)))
        rw [foretellkeep_has.l0, if_pos (by omega), if_pos (by omega), rd_eq hil, if_neg c, w64 (n := (i : Int) + 1) (by omega) (by omega)]
        rfl
  exact key l.length 0 (Nat.zero_add _) (by simp)
end Go.Proofs.Ytobgkjdchpokgaa.Q
end
