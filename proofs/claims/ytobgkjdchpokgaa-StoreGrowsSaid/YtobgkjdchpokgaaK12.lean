-- PACKED by pack.py of this repo: QStore
import Derived.Test.YtobgkjdchpokgaaK3
import Derived.Test.YtobgkjdchpokgaaK4
import Derived.Test.YtobgkjdchpokgaaK5
import Derived.Test.YtobgkjdchpokgaaK8
import Derived.Test.YtobgkjdchpokgaaK11
section
namespace Go.Proofs.Ytobgkjdchpokgaa.Q
open Go.RowKit Go.Proofs.YtobgkjdchpokgaaW.PrintWords Go.Proofs.YtobgkjdchpokgaaW.PrintMore Go.Proofs.Ytobgkjdchpokgaa.P
set_option linter.unusedVariables false
abbrev keyOk (n : Int) : Prop := 0 ≤ n ∧ n ≤ 2147483647
def allK (lo : List Int) (rn : List (List Int)) : List Int := lo ++ rn.flatten
structure Sane (lo : List Int) (rn : List (List Int)) : Prop where
  few : lo.length < 8
  ne : ∀ r ∈ rn, r ≠ []
  rise : ∀ r ∈ rn, r.Pairwise (· < ·)
  tot : (allK lo rn).length ≤ 20000
  key : ∀ x ∈ allK lo rn, keyOk x
  nd : (allK lo rn).Nodup
theorem flat_len_le : ∀ {rn : List (List Int)} {r : List Int}, r ∈ rn → r.length ≤ rn.flatten.length
  | s :: rn, r, h => by
    rw [List.flatten_cons, List.length_append]
    rcases List.mem_cons.mp h with rfl | h
    · omega
    · have := flat_len_le h; omega
theorem flat_count : ∀ {rn : List (List Int)}, (∀ r ∈ rn, r ≠ []) → rn.length ≤ rn.flatten.length
  | [], _ => by simp
  | s :: rn, h => by
    have h1 := flat_count (rn := rn) (fun r hr => h r (List.mem_cons_of_mem _ hr))
    have h2 := h s List.mem_cons_self
    have h3 : 0 < s.length := List.length_pos_iff.mpr h2
    rw [List.flatten_cons, List.length_append, List.length_cons]
    omega
theorem Sane.runs {lo : List Int} {rn : List (List Int)} (h : Sane lo rn) : rn.length ≤ 20000 := by
  have h1 := flat_count h.ne
  have h2 := h.tot
  unfold allK at h2
  rw [List.length_append] at h2
  omega
theorem Sane.run {lo : List Int} {rn : List (List Int)} (h : Sane lo rn) {r : List Int} (hr : r ∈ rn) : r.length ≤ 20000 := by
  have h1 := flat_len_le hr
  have h2 := h.tot
  unfold allK at h2
  rw [List.length_append] at h2
  omega
theorem rdL {l : List (List Int)} {i : Nat} (h : i < l.length) : rd_L1 l (i : Int) = l[i] := by simp [rd_L1, h]
theorem take_flat {rn : List (List Int)} {i : Nat} (h : i < rn.length) : (rn.take (i + 1)).flatten = (rn.take i).flatten ++ rn[i] := by
  rw [List.take_add_one, List.getElem?_eq_getElem h, List.flatten_append]
  simp
theorem pre_len {lo : List Int} {rn : List (List Int)} (h : Sane lo rn) {i : Nat} (hi : i ≤ rn.length) : (lo ++ (rn.take i).flatten).length ≤ 20000 := by
  have h2 := h.tot
  unfold allK at h2
  rw [← List.take_append_drop i rn, List.flatten_append, ← List.append_assoc, List.length_append] at h2
  omega
theorem clone_is {l : List Int} (h : l.length < 17592186044416) : slices_Clone_int_int.f l = some l := by
  unfold slices_Clone_int_int.f
  rw [if_pos h]
theorem sort_is {l : List Int} (h : l.length < 17592186044416) : slices_Sort_int_int.f l = some (srt l) := by
  unfold slices_Sort_int_int.f
  rw [if_pos h]
theorem ck_l2 {l : List Int} (hr : l.Pairwise (· < ·)) (hl : l.length ≤ 20000) : ∀ (d i : Nat), i + d = l.length → Ev (fun k => store_Check.l2 k l l (l.length : Int) (i : Int)) 0 := by
  intro d
  induction d with
  | zero =>
    intro i hi
    refine Ev.step (f := fun _ => some 0) (fun k => ?_) (Ev.now _)
    rw [store_Check.l2, if_neg (by omega)]
  | succ d ih =>
    intro i hi
    have hil : i < l.length := by omega
    refine Ev.step (f := fun k => store_Check.l2 k l l (l.length : Int) ((i + 1 : Nat) : Int)) (fun k => ?_) (ih (i + 1) (by omega))
    rw [store_Check.l2, if_pos (by omega), if_pos (by omega), if_pos (by omega), w64 (n := (i : Int) + 1) (by omega) (by omega)]
    by_cases c : (i : Int) > 0
    · obtain ⟨j, rfl⟩ : ∃ j, i = j + 1 := ⟨i - 1, by omega⟩
      have e : wrap64 (((j + 1 : Nat) : Int) - 1) = (j : Int) := by rw [show ((j + 1 : Nat) : Int) - 1 = (j : Int) by omega]; exact w64 (n := (j : Int)) (by omega) (by omega)
      have hlt := List.pairwise_iff_getElem.mp hr j (j + 1) (by omega) hil (by omega)
      rw [if_pos c, e, if_pos (by omega), if_pos (by omega), rd_eq (show j < l.length by omega), rd_eq hil, if_neg (by omega)]
      rfl
    · rw [if_neg c]
      rfl
theorem ck_l1 {acc r : List Int} {rn : List (List Int)} {i : Int} (hr : r.Pairwise (· < ·)) (hl : r.length ≤ 20000) (ha : acc.length ≤ 20000) (hi : 0 ≤ i) (hi2 : i ≤ 100000) {e : Int} (hn : Ev (fun k => store_Check.l0 k (acc ++ r) rn (rn.length : Int) (i + 1)) e) :
    ∀ (d j : Nat), j + d = r.length → Ev (fun k => store_Check.l1 k acc r rn (rn.length : Int) i r (r.length : Int) (j : Int)) e := by
  intro d
  induction d with
  | zero =>
    intro j hj
    refine Ev.step (fun k => ?_) hn
    rw [store_Check.l1, if_neg (by omega), if_pos (by omega), w64 (n := i + 1) (by omega) (by omega)]
  | succ d ih =>
    intro j hj
    have hjl : j < r.length := by omega
    refine Ev.step (f := fun k => store_Check.l1 k acc r rn (rn.length : Int) i r (r.length : Int) ((j + 1 : Nat) : Int)) (fun k => ?_) (ih (j + 1) (by omega))
    rw [store_Check.l1, if_pos (by omega), if_pos (by omega), if_pos (by omega), w64 (n := (j : Int) + 1) (by omega) (by omega)]
    by_cases c : (j : Int) > 0
    · obtain ⟨m, rfl⟩ : ∃ m, j = m + 1 := ⟨j - 1, by omega⟩
      have e : wrap64 (((m + 1 : Nat) : Int) - 1) = (m : Int) := by rw [show ((m + 1 : Nat) : Int) - 1 = (m : Int) by omega]; exact w64 (n := (m : Int)) (by omega) (by omega)
      have hlt := List.pairwise_iff_getElem.mp hr m (m + 1) (by omega) hjl (by omega)
      rw [if_pos c, e, if_pos (by omega), if_pos (by omega), rd_eq (show m < r.length by omega), rd_eq hjl, if_neg (by omega)]
      rfl
    · rw [if_neg c]
      rfl
theorem ck_l0 {lo : List Int} {rn : List (List Int)} (h : Sane lo rn) : ∀ (d i : Nat), i + d = rn.length → Ev (fun k => store_Check.l0 k (lo ++ (rn.take i).flatten) rn (rn.length : Int) (i : Int)) 0 := by
  have hrn := h.runs
  intro d
  induction d with
  | zero =>
    intro i hi
    rw [List.take_of_length_le (by omega)]
    have ht := h.tot
    have hk : slices_ContainsFunc_int_int.f (lo ++ rn.flatten) = some false := by
      unfold slices_ContainsFunc_int_int.f
      congr 1
      rw [List.any_eq_false]
      intro x hx
      have := h.key x hx
      unfold slices_ContainsFunc_int_int.bad
      simp [this.1, this.2]
    have hs := ck_l2 (l := srt (lo ++ rn.flatten)) (nodup_rise h.nd) (by rw [srt_len]; exact ht) _ 0 (Nat.zero_add _)
    rw [srt_len] at hs
    refine Ev.step (fun k => ?_) hs
    rw [store_Check.l0, if_neg (by omega), hk, Option.bind_some, if_neg (by decide), sort_is (by have : (lo ++ rn.flatten).length ≤ 20000 := ht; omega), Option.bind_some]
    rfl
  | succ d ih =>
    intro i hi
    have hil : i < rn.length := by omega
    have hm := List.getElem_mem hil
    have hp := pre_len h (i := i + 1) (by omega)
    have hp0 := pre_len h (i := i) (by omega)
    have hih := ih (i + 1) (by omega)
    rw [take_flat hil, ← List.append_assoc] at hih hp
    have hne : ¬ ((rn[i]).length : Int) = 0 := by
      have := List.length_pos_iff.mpr (h.ne _ hm)
      omega
    rw [List.length_append] at hp
    have h1 := ck_l1 (rn := rn) (i := (i : Int)) (h.rise _ hm) (h.run hm) hp0 (by omega) (by omega) hih rn[i].length 0 (Nat.zero_add _)
    have h2 : Ev (fun k => store_Check.j1 k (lo ++ (rn.take i).flatten) rn[i] rn (rn.length : Int) (i : Int) false) 0 := by
      refine Ev.step (fun k => ?_) h1
      rw [store_Check.j1, if_neg (by decide)]
      rfl
    refine Ev.step (fun k => ?_) h2
    rw [store_Check.l0, if_pos (by omega), if_pos (by omega), if_pos (by omega), rdL hil, if_neg hne, w64 (n := ((lo ++ (rn.take i).flatten).length : Int) + (rn[i].length : Int)) (by omega) (by omega), decide_eq_false (show ¬ ((lo ++ (rn.take i).flatten).length : Int) + (rn[i].length : Int) > 20000 by omega)]
theorem check_is {lo : List Int} {rn : List (List Int)} (h : Sane lo rn) : Ev (fun k => store_Check.f k lo rn) 0 := by
  have := h.few
  have h0 := ck_l0 h rn.length 0 (Nat.zero_add _)
  rw [List.take_zero, List.flatten_nil, List.append_nil] at h0
  refine Ev.congr (fun k => ?_) h0
  unfold store_Check.f
  rw [if_neg (by omega), clone_is (by omega), Option.bind_some]
  rfl
theorem key_is {n : Int} (h : keyOk n) : store_key.f n = some true := by
  unfold store_key.f
  rw [if_pos h.1, decide_eq_true h.2]
theorem index_is (l : List Int) (n : Int) (hl : l.length ≤ 1000000) : ∃ r, Ev (fun k => slices_Index_int_int.f k l n) r ∧ (r ≥ 0 ↔ n ∈ l) := by
  have key : ∀ (d i : Nat), i + d = l.length → n ∉ l.take i → ∃ r, Ev (fun k => slices_Index_int_int.l0 k l n (l.length : Int) (i : Int)) r ∧ (r ≥ 0 ↔ n ∈ l) := by
    intro d
    induction d with
    | zero =>
      intro i hi hn
      rw [List.take_of_length_le (by omega)] at hn
      refine ⟨-1, Ev.step (f := fun _ => some (-1)) (fun k => ?_) (Ev.now _), by simp [hn]⟩
      rw [slices_Index_int_int.l0, if_neg (by omega)]
    | succ d ih =>
      intro i hi hn
      have hil : i < l.length := by omega
      by_cases c : n = l[i]
      · refine ⟨(i : Int), Ev.step (f := fun _ => some (i : Int)) (fun k => ?_) (Ev.now _), ⟨fun _ => by rw [c]; exact List.getElem_mem hil, fun _ => by omega⟩⟩
        rw [slices_Index_int_int.l0, if_pos (by omega), if_pos (by omega), if_pos (by omega), rd_eq hil, if_pos c]
      · obtain ⟨r, hr, hr2⟩ := ih (i + 1) (by omega) (by
          rw [List.take_add_one, List.getElem?_eq_getElem hil]
          intro hm
          rcases List.mem_append.mp hm with hm | hm
          · exact hn hm
          · exact c (by simpa using hm))
        refine ⟨r, Ev.step (f := fun k => slices_Index_int_int.l0 k l n (l.length : Int) ((i + 1 : Nat) : Int)) (fun k => ?_) hr, hr2⟩
        rw [slices_Index_int_int.l0, if_pos (by omega), if_pos (by omega), if_pos (by omega), rd_eq hil, if_neg c, w64 (n := (i : Int) + 1) (by omega) (by omega)]
        rfl
  exact key l.length 0 (Nat.zero_add _) (by simp)
theorem contains_is (l : List Int) (n : Int) (hl : l.length ≤ 1000000) : Ev (fun k => slices_Contains_int_int.f k l n) (decide (n ∈ l)) := by
  obtain ⟨r, hr, hr2⟩ := index_is l n hl
  refine Ev.bind hr (ev_some ?_)
  by_cases c : n ∈ l
  · rw [decide_eq_true c, decide_eq_true (hr2.mpr c)]
  · rw [decide_eq_false c, decide_eq_false (fun h => c (hr2.mp h))]
theorem less_is (a b : Int) : cmp_Less_int.f a b = some (decide (a < b)) := by
  unfold cmp_Less_int.f cmp_isNaN_int.f
  simp
theorem search_is {l : List Int} (n : Int) (hl : l.length ≤ 1000000) (hs : l.Pairwise (· < ·)) : ∃ p, Ev (fun k => slices_BinarySearch_int_int.f k l n) (p, decide (n ∈ l)) := by
  have hg := List.pairwise_iff_getElem.mp hs
  have key : ∀ (d i j : Nat), j - i ≤ d → i ≤ j → j ≤ l.length → (∀ a (ha : a < l.length), a < i → l[a] < n) → (∀ b (hb : b < l.length), j ≤ b → n ≤ l[b]) → ∃ p, Ev (fun k => slices_BinarySearch_int_int.l0 k l n (l.length : Int) (i : Int) (j : Int)) (p, decide (n ∈ l)) := by
    intro d
    induction d with
    | zero =>
      intro i j h1 h2 h3 h4 h5
      obtain rfl : i = j := by omega
      by_cases c : i < l.length
      · by_cases e : l[i] = n
        · refine ⟨(i : Int), Ev.step (f := fun _ => some ((i : Int), decide (n ∈ l))) (fun k => ?_) (Ev.now _)⟩
          rw [slices_BinarySearch_int_int.l0, if_neg (by omega), if_pos (by omega), if_pos (by omega), if_pos (by omega), rd_eq c, if_pos e, decide_eq_true (by rw [← e]; exact List.getElem_mem c)]
        · have hnm : n ∉ l := by
            intro hm
            obtain ⟨q, hq, rfl⟩ := List.getElem_of_mem hm
            rcases Nat.lt_trichotomy q i with h | h | h
            · have := h4 q hq h; omega
            · subst h; exact e rfl
            · have := h5 i c (Nat.le_refl _); have := hg i q c hq h; omega
          refine ⟨(i : Int), Ev.step (f := fun _ => some ((i : Int), decide (n ∈ l))) (fun k => ?_) (Ev.now _)⟩
          rw [slices_BinarySearch_int_int.l0, if_neg (by omega), if_pos (by omega), if_pos (by omega), if_pos (by omega), rd_eq c, if_neg e, decide_eq_false hnm]
          unfold slices_isNaN_int.f
          simp
      · have hnm : n ∉ l := by
          intro hm
          obtain ⟨q, hq, rfl⟩ := List.getElem_of_mem hm
          have := h4 q hq (by omega)
          omega
        refine ⟨(i : Int), Ev.step (f := fun _ => some ((i : Int), decide (n ∈ l))) (fun k => ?_) (Ev.now _)⟩
        rw [slices_BinarySearch_int_int.l0, if_neg (by omega), if_neg (by omega), decide_eq_false hnm]
    | succ d ih =>
      intro i j h1 h2 h3 h4 h5
      by_cases c : i < j
      · obtain ⟨m, hm⟩ : ∃ m, m = (i + j) / 2 := ⟨_, rfl⟩
        have em : wrap64 ((IntKind.u64.wrap (wrap64 ((i : Int) + (j : Int)))) / 2) = (m : Int) := by
          rw [w64 (n := (i : Int) + (j : Int)) (by omega) (by omega), IntWalk.u64_in _ ⟨by omega, by omega⟩]
          rw [w64 (n := ((i : Int) + (j : Int)) / 2) (by omega) (by omega)]
          omega
        have hml : m < l.length := by omega
        by_cases e : l[m] < n
        · obtain ⟨p, hp⟩ := ih (m + 1) j (by omega) (by omega) h3 (fun a ha ham => by
            by_cases q : a = m
            · subst q; exact e
            · have := hg a m ha hml (by omega); omega) h5
          refine ⟨p, Ev.step (f := fun k => slices_BinarySearch_int_int.l0 k l n (l.length : Int) ((m + 1 : Nat) : Int) (j : Int)) (fun k => ?_) hp⟩
          rw [slices_BinarySearch_int_int.l0, if_pos (by omega), em, if_pos (by omega), if_pos (by omega), rd_eq hml, less_is, Option.bind_some, decide_eq_true e, if_pos rfl, w64 (n := (m : Int) + 1) (by omega) (by omega)]
          rfl
        · obtain ⟨p, hp⟩ := ih i m (by omega) (by omega) (by omega) h4 (fun b hb hmb => by
            by_cases q : b = m
            · subst q; omega
            · have := hg m b hml hb (by omega); omega)
          refine ⟨p, Ev.step (f := fun k => slices_BinarySearch_int_int.l0 k l n (l.length : Int) (i : Int) (m : Int)) (fun k => ?_) hp⟩
          rw [slices_BinarySearch_int_int.l0, if_pos (by omega), em, if_pos (by omega), if_pos (by omega), rd_eq hml, less_is, Option.bind_some, decide_eq_false e, if_neg (by decide)]
      · obtain rfl : i = j := by omega
        exact ih i i (by omega) (by omega) h3 h4 h5
  exact key l.length 0 l.length (by omega) (Nat.zero_le _) (Nat.le_refl _) (fun a ha h => absurd h (by omega)) (fun b hb h => absurd hb (by omega))
theorem has_l0 {lo : List Int} {rn : List (List Int)} (h : Sane lo rn) (n : Int) : ∀ (d i : Nat), i + d = rn.length → Ev (fun k => store_Has.l0 k n (decide (n ∈ lo ++ (rn.take i).flatten)) rn (rn.length : Int) (i : Int)) (decide (n ∈ allK lo rn), 0) := by
  have hrn := h.runs
  intro d
  induction d with
  | zero =>
    intro i hi
    rw [List.take_of_length_le (by omega)]
    refine Ev.step (f := fun _ => some (decide (n ∈ allK lo rn), 0)) (fun k => ?_) (Ev.now _)
    rw [store_Has.l0, if_neg (by omega)]
    rfl
  | succ d ih =>
    intro i hi
    have hil : i < rn.length := by omega
    have hm := List.getElem_mem hil
    have hih := ih (i + 1) (by omega)
    rw [take_flat hil, ← List.append_assoc] at hih
    obtain ⟨p, hp⟩ := search_is n (by have := h.run hm; omega) (h.rise _ hm)
    refine Ev.step (f := fun k => (slices_BinarySearch_int_int.f k rn[i] n).bind fun b => if decide (n ∈ lo ++ (rn.take i).flatten) = true then store_Has.l0 k n true rn (rn.length : Int) ((i + 1 : Nat) : Int) else store_Has.l0 k n b.2 rn (rn.length : Int) ((i + 1 : Nat) : Int)) (fun k => ?_) (Ev.bind hp ?_)
    · rw [store_Has.l0, if_pos (by omega), if_pos (by omega), if_pos (by omega), rdL hil, w64 (n := (i : Int) + 1) (by omega) (by omega)]
      rfl
    · by_cases c : n ∈ lo ++ (rn.take i).flatten
      · rw [decide_eq_true (List.mem_append_left _ c)] at hih
        simp only [decide_eq_true c, if_true]
        exact hih
      · have e : decide (n ∈ lo ++ (rn.take i).flatten ++ rn[i]) = decide (n ∈ rn[i]) := by
          rw [decide_eq_decide, List.mem_append]
          exact ⟨fun h => h.resolve_left c, .inr⟩
        rw [e] at hih
        simp only [decide_eq_false c, Bool.false_eq_true, if_false]
        exact hih
theorem has_is' {lo : List Int} {rn : List (List Int)} (h : Sane lo rn) {n : Int} (hn : keyOk n) : Ev (fun k => store_Has.f k lo rn n) (decide (n ∈ allK lo rn), 0) := by
  have hf := h.few
  have h0 := has_l0 h n rn.length 0 (Nat.zero_add _)
  rw [List.take_zero, List.flatten_nil, List.append_nil] at h0
  refine Ev.bind (check_is h) ?_
  simp only [if_true, key_is hn, Option.bind_some]
  exact Ev.bind (contains_is lo n (by omega)) h0
theorem own_l0 {lo : List Int} {rn : List (List Int)} (h : Sane lo rn) : ∀ (d i : Nat), i + d = rn.length → Ev (fun k => store_own.l0 k rn (rn.length : Int) (i : Int) lo (rn.take i)) (lo, rn) := by
  have hrn := h.runs
  intro d
  induction d with
  | zero =>
    intro i hi
    refine Ev.step (f := fun _ => some (lo, rn)) (fun k => ?_) (Ev.now _)
    rw [store_own.l0, if_neg (by omega), List.take_of_length_le (by omega)]
  | succ d ih =>
    intro i hi
    have hil : i < rn.length := by omega
    have hih := ih (i + 1) (by omega)
    rw [List.take_add_one, List.getElem?_eq_getElem hil] at hih
    refine Ev.step (fun k => ?_) hih
    rw [store_own.l0, if_pos (by omega), if_pos (by omega), if_pos (by omega), rdL hil, clone_is (by have := h.run (List.getElem_mem hil); omega), Option.bind_some, if_pos (by rw [List.length_take]; omega), w64 (n := (i : Int) + 1) (by omega) (by omega)]
    rfl
theorem own_is {lo : List Int} {rn : List (List Int)} (h : Sane lo rn) : Ev (fun k => store_own.f k lo rn) (lo, rn) := by
  have hf := h.few
  refine Ev.congr (fun k => ?_) (own_l0 h rn.length 0 (Nat.zero_add _))
  unfold store_own.f
  rw [clone_is (by omega), Option.bind_some]
  rfl
theorem keys_l0 {lo : List Int} {rn : List (List Int)} (h : Sane lo rn) : ∀ (d i : Nat), i + d = rn.length → Ev (fun k => store_keys.l0 k ((lo ++ (rn.take i).flatten).length : Int) rn (rn.length : Int) (i : Int)) ((allK lo rn).length : Int) := by
  have hrn := h.runs
  intro d
  induction d with
  | zero =>
    intro i hi
    rw [List.take_of_length_le (by omega)]
    refine Ev.step (f := fun _ => some ((allK lo rn).length : Int)) (fun k => ?_) (Ev.now _)
    rw [store_keys.l0, if_neg (by omega)]
    rfl
  | succ d ih =>
    intro i hi
    have hil : i < rn.length := by omega
    have hih := ih (i + 1) (by omega)
    have hp := pre_len h (i := i + 1) (by omega)
    rw [take_flat hil, ← List.append_assoc, List.length_append] at hih hp
    refine Ev.step (fun k => ?_) hih
    rw [store_keys.l0, if_pos (by omega), if_pos (by omega), if_pos (by omega), rdL hil, w64 (n := ((lo ++ (rn.take i).flatten).length : Int) + (rn[i].length : Int)) (by omega) (by omega), w64 (n := (i : Int) + 1) (by omega) (by omega)]
    rfl
theorem keys_is {lo : List Int} {rn : List (List Int)} (h : Sane lo rn) : Ev (fun k => store_keys.f k lo rn) ((allK lo rn).length : Int) := by
  have h0 := keys_l0 h rn.length 0 (Nat.zero_add _)
  rw [List.take_zero, List.flatten_nil, List.append_nil] at h0
  exact h0
theorem merge_l0 : ∀ (d : Nat) (x y acc : List Int), x.length + y.length ≤ d → acc.length + x.length + y.length ≤ 100000 → x.Pairwise (· < ·) → y.Pairwise (· < ·) → (x ++ y).Nodup → Ev (fun k => store_merge.l0 k x y acc) (acc ++ srt (x ++ y)) := by
  have hfin : ∀ (x y acc : List Int), acc.length + x.length + y.length ≤ 100000 → (x ++ y).Pairwise (· < ·) → Ev (fun k => store_merge.j1 k x y acc false) (acc ++ srt (x ++ y)) := by
    intro x y acc hl hr
    refine Ev.step (f := fun _ => some (acc ++ srt (x ++ y))) (fun k => ?_) (Ev.now _)
    rw [store_merge.j1, if_neg (by decide), if_pos (by omega), Option.bind_some, if_pos (by rw [List.length_append]; omega), srt_rise hr, List.append_assoc]
  intro d
  induction d with
  | zero =>
    intro x y acc hd hl hx hy hn
    have e1 : x = [] := List.eq_nil_of_length_eq_zero (by omega)
    have e2 : y = [] := List.eq_nil_of_length_eq_zero (by omega)
    subst e1; subst e2
    refine Ev.step (fun k => ?_) (hfin [] [] acc hl (by simp))
    rw [store_merge.l0, if_neg (by simp)]
  | succ d ih =>
    intro x y acc hd hl hx hy hn
    match x, y with
    | [], y =>
      refine Ev.step (fun k => ?_) (hfin [] y acc hl (by simpa using hy))
      rw [store_merge.l0, if_neg (by simp)]
    | a :: x, [] =>
      refine Ev.step (fun k => ?_) (hfin (a :: x) [] acc hl (by simpa using hx))
      rw [store_merge.l0, if_pos (by simp), decide_eq_false (by simp)]
    | a :: x, b :: y =>
      obtain ⟨hx1, hx2⟩ := List.pairwise_cons.mp hx
      obtain ⟨hy1, hy2⟩ := List.pairwise_cons.mp hy
      obtain ⟨n1, n2, n3⟩ := List.nodup_append.mp hn
      have hab : a ≠ b := n3 a List.mem_cons_self b List.mem_cons_self
      simp only [List.length_cons] at hd hl
      have h0 : ∀ {e : List Int}, Ev (fun k => store_merge.j1 k (a :: x) (b :: y) acc true) e → Ev (fun k => store_merge.l0 k (a :: x) (b :: y) acc) e := fun h => by
        refine Ev.step (fun k => ?_) h
        rw [store_merge.l0, if_pos (by simp), decide_eq_true (by simp)]
      have ra : rd (a :: x) 0 = a := rfl
      have rb : rd (b :: y) 0 = b := rfl
      refine h0 ?_
      by_cases c : a > b
      · have hnd : (y ++ (a :: x)).Nodup := List.nodup_append.mpr ⟨(List.nodup_cons.mp n2).2, n1, fun u hu v hv e => n3 v hv u (List.mem_cons_of_mem _ hu) e.symm⟩
        have hi := ih y (a :: x) (acc ++ [b]) (by simp only [List.length_cons]; omega) (by simp only [List.length_cons, List.length_append, List.length_nil]; omega) hy2 hx hnd
        have e : srt ((a :: x) ++ (b :: y)) = b :: srt (y ++ (a :: x)) := by
          refine rise_ext (nodup_rise hn) (List.pairwise_cons.mpr ⟨fun u hu => ?_, nodup_rise hnd⟩) (fun u => ?_)
          · rcases List.mem_append.mp ((srt_mem _ _).mp hu) with h | h
            · exact hy1 u h
            · rcases List.mem_cons.mp h with rfl | h
              · exact c
              · have := hx1 u h; omega
          · rw [srt_mem, List.mem_cons, srt_mem, List.mem_append, List.mem_append, List.mem_cons, List.mem_cons]
            constructor
            · rintro ((h | h) | (h | h))
              · exact .inr (.inr (.inl h))
              · exact .inr (.inr (.inr h))
              · exact .inl h
              · exact .inr (.inl h)
            · rintro (h | h | h | h)
              · exact .inr (.inl h)
              · exact .inr (.inr h)
              · exact .inl (.inl h)
              · exact .inl (.inr h)
        rw [e, show acc ++ b :: srt (y ++ (a :: x)) = (acc ++ [b]) ++ srt (y ++ (a :: x)) by simp]
        refine Ev.step (fun k => ?_) hi
        rw [store_merge.j1, if_pos rfl, if_pos (by simp), if_pos (by simp), ra, rb, if_pos c, if_pos (by omega), if_pos (by simp; omega)]
        rfl
      · have hnd : (x ++ (b :: y)).Nodup := List.nodup_append.mpr ⟨(List.nodup_cons.mp n1).2, n2, fun u hu v hv => n3 u (List.mem_cons_of_mem _ hu) v hv⟩
        have hi := ih x (b :: y) (acc ++ [a]) (by simp only [List.length_cons]; omega) (by simp only [List.length_cons, List.length_append, List.length_nil]; omega) hx2 hy hnd
        have e : srt ((a :: x) ++ (b :: y)) = a :: srt (x ++ (b :: y)) := by
          refine rise_ext (nodup_rise hn) (List.pairwise_cons.mpr ⟨fun u hu => ?_, nodup_rise hnd⟩) (fun u => ?_)
          · rcases List.mem_append.mp ((srt_mem _ _).mp hu) with h | h
            · exact hx1 u h
            · rcases List.mem_cons.mp h with rfl | h
              · omega
              · have := hy1 u h; omega
          · rw [srt_mem, List.mem_cons, srt_mem, List.cons_append, List.mem_cons]
        rw [e, show acc ++ a :: srt (x ++ (b :: y)) = (acc ++ [a]) ++ srt (x ++ (b :: y)) by simp]
        refine Ev.step (fun k => ?_) hi
        rw [store_merge.j1, if_pos rfl, if_pos (by simp), if_pos (by simp), ra, rb, if_neg c, if_pos (by omega), if_pos (by simp; omega)]
        rfl
theorem merge_is {x y : List Int} (hl : x.length + y.length ≤ 100000) (hx : x.Pairwise (· < ·)) (hy : y.Pairwise (· < ·)) (hn : (x ++ y).Nodup) : Ev (fun k => store_merge.f k x y) (srt (x ++ y)) := by
  have h0 := merge_l0 _ x y [] (Nat.le_refl _) (by simp; omega) hx hy hn
  rw [List.nil_append] at h0
  refine Ev.congr (fun k => ?_) h0
  unfold store_merge.f
  rw [w64 (n := (x.length : Int) + (y.length : Int)) (by omega) (by omega), if_pos (by omega), if_pos (by omega)]
end Go.Proofs.Ytobgkjdchpokgaa.Q
end
