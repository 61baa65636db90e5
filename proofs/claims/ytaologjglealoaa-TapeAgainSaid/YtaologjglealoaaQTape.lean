/- The tape in plain lists: what Write, Read, Repair make of bytes. -/
import Derived.Test.YtaologjglealoaaFTapeRepair
import Derived.Test.YtaologjglealoaaFTapeCrash
import Derived.Test.YtaologjglealoaaFTapeSync
import Derived.Test.YtaologjglealoaaFForetellkeepTaped
import Derived.Test.YtaologjglealoaaFForetellkeepSameLists
import Derived.Test.YtaologjglealoaaQSumOne
namespace Go.Proofs.Ytaologjglealoaa.Q
open Go.RowKit Go.Proofs.YtaologjglealoaaW.PrintWords Go.Proofs.YtaologjglealoaaW.PrintMore Go.Proofs.Ytaologjglealoaa.P
set_option linter.unusedVariables false

/-! ### numbers of four bytes -/
def p4 (n : Int) : List Int := [n / 16777216 % 256, n / 65536 % 256, n / 256 % 256, n % 256]
def g4 (l : List Int) : Int := l.getD 0 0 * 16777216 + l.getD 1 0 * 65536 + l.getD 2 0 * 256 + l.getD 3 0
theorem p4_len (n : Int) : (p4 n).length = 4 := rfl
theorem p4_bytes (n : Int) : bytes (p4 n) := fun x hx => by
  unfold p4 at hx
  simp only [List.mem_cons, List.not_mem_nil, or_false] at hx
  rcases hx with rfl | rfl | rfl | rfl <;> omega
theorem g4_p4 {n : Int} (h0 : 0 ≤ n) (h1 : n < 4294967296) (l : List Int) : g4 (p4 n ++ l) = n := by
  unfold g4 p4
  simp only [List.cons_append, List.getD_cons_zero, List.getD_cons_succ]
  omega
theorem bytes_append {a b : List Int} (ha : bytes a) (hb : bytes b) : bytes (a ++ b) := fun x hx => by
  rcases List.mem_append.1 hx with h | h
  · exact ha x h
  · exact hb x h
theorem bytes_take {a : List Int} (ha : bytes a) (n : Nat) : bytes (a.take n) := fun x hx => ha x (List.mem_of_mem_take hx)
theorem bytes_drop {a : List Int} (ha : bytes a) (n : Nat) : bytes (a.drop n) := fun x hx => ha x (List.mem_of_mem_drop hx)
theorem or_join (i : Nat) (x y : Int) (hx0 : 0 ≤ x) (hx : x % 2 ^ i = 0) (hx1 : x < 2 ^ 62) (hy0 : 0 ≤ y) (hy : y < 2 ^ i) (hy1 : y < 2 ^ 62) : Go.bits .or .i64 x y = x + y :=
  bits_join .i64 62 (by decide) (fun n h0 h1 => by rw [IntKind.wrap_i64]; omega) i x y hx0 hx hx1 hy0 hy hy1
theorem getD_bytes {l : List Int} (hb : bytes l) (i : Nat) : 0 ≤ l.getD i 0 ∧ l.getD i 0 ≤ 255 := by
  rw [List.getD_eq_getElem?_getD]
  rcases Nat.lt_or_ge i l.length with h | h
  · rw [List.getElem?_eq_getElem h]; exact hb _ (List.getElem_mem h)
  · rw [List.getElem?_eq_none h]; simp
theorem g4_in {l : List Int} (hb : bytes l) : 0 ≤ g4 l ∧ g4 l ≤ 4294967295 := by
  have := getD_bytes hb 0; have := getD_bytes hb 1; have := getD_bytes hb 2; have := getD_bytes hb 3
  unfold g4; omega
theorem get_is {l : List Int} (hb : bytes l) (h : 4 ≤ l.length) : tape_get.f l = some (g4 l) := by
  have b0 := getD_bytes hb 0; have b1 := getD_bytes hb 1; have b2 := getD_bytes hb 2; have b3 := getD_bytes hb 3
  unfold tape_get.f g4 rd
  simp only [Int.toNat_zero, show (1 : Int).toNat = 1 from rfl, show (2 : Int).toNat = 2 from rfl, show (3 : Int).toNat = 3 from rfl]
  generalize l.getD 0 0 = x0 at *
  generalize l.getD 1 0 = x1 at *
  generalize l.getD 2 0 = x2 at *
  generalize l.getD 3 0 = x3 at *
  rw [if_pos (by omega), if_pos (by omega), if_pos (by omega), if_pos (by omega)]
  rw [w64 (n := x0) (by omega) (by omega), w64 (n := x1) (by omega) (by omega), w64 (n := x2) (by omega) (by omega), w64 (n := x3) (by omega) (by omega)]
  rw [w64 (n := x0 * 16777216) (by omega) (by omega), w64 (n := x1 * 65536) (by omega) (by omega), w64 (n := x2 * 256) (by omega) (by omega)]
  rw [or_join 24 (x0 * 16777216) (x1 * 65536) (by omega) (by omega) (by omega) (by omega) (by omega) (by omega)]
  rw [or_join 16 (x0 * 16777216 + x1 * 65536) (x2 * 256) (by omega) (by omega) (by omega) (by omega) (by omega) (by omega)]
  rw [or_join 8 (x0 * 16777216 + x1 * 65536 + x2 * 256) x3 (by omega) (by omega) (by omega) (by omega) (by omega) (by omega)]
theorem put_is {l : List Int} {n : Int} (h : l.length < 1000000) : tape_put.f l n = some (l ++ p4 n) := by
  unfold tape_put.f
  simp only [Option.bind_some]
  rw [if_pos (by simp only [List.length_cons, List.length_nil]; omega)]
  rfl
theorem clone_is {l : List Int} (h : l.length < 140737488355328) : slices_Clone_byte_byte.f l = some l := by
  unfold slices_Clone_byte_byte.f
  rw [if_pos h]
theorem open_is {l : List Int} {s : Int} (h0 : 0 ≤ s) (h1 : s ≤ l.length) (h2 : l.length ≤ 1048576) : tape_open.f l s = some (l, s, true) := by
  unfold tape_open.f
  rw [if_neg (by omega), if_neg (by omega), if_neg (by omega), clone_is (by omega)]
  rfl

/-! ### records -/
/-- A number that a record may hold. -/
def okn (l : List Int) : Prop := ∀ x ∈ l, 0 ≤ x ∧ x ≤ 2147483647
def body (r : List Int) : List Int := p4 r.length ++ r.flatMap p4
def enc (r : List Int) : List Int := body r ++ p4 (sm 1 (body r))
theorem flat_len (r : List Int) : (r.flatMap p4).length = 4 * r.length := by
  induction r with
  | nil => rfl
  | cons x r ih => rw [List.flatMap_cons, List.length_append, ih, p4_len, List.length_cons]; omega
theorem body_len (r : List Int) : (body r).length = 4 + 4 * r.length := by unfold body; rw [List.length_append, flat_len, p4_len]
theorem enc_len (r : List Int) : (enc r).length = 8 + 4 * r.length := by unfold enc; rw [List.length_append, body_len, p4_len]; omega
theorem flat_bytes (r : List Int) : bytes (r.flatMap p4) := fun x hx => by
  obtain ⟨y, _, hy⟩ := List.mem_flatMap.1 hx
  exact p4_bytes y x hy
theorem body_bytes (r : List Int) : bytes (body r) := bytes_append (p4_bytes _) (flat_bytes r)
theorem enc_bytes (r : List Int) : bytes (enc r) := bytes_append (body_bytes r) (p4_bytes _)
theorem ev_sum {l : List Int} (hb : bytes l) (hl : l.length ≤ 9223372036854775806) : Ev (fun k => tape_Sum.f k l) (sm 1 l) := ⟨l.length + 1, fun k hk => sum_is hb hl (by omega)⟩
theorem write_l (r t : List Int) (s : Int) (hr : okn r) (hrl : r.length ≤ 4000) (ht : t.length + (8 + 4 * r.length) ≤ 1048576) (d : Nat) : ∀ (i : Nat), i + d = r.length →
    Ev (fun k => tape_Write.l0 k (p4 r.length ++ (r.take i).flatMap p4) r (r.length : Int) (i : Int) t s) (t ++ enc r, s, 0) := by
  induction d with
  | zero =>
    intro i hi
    obtain rfl : i = r.length := by omega
    rw [List.take_of_length_le (Nat.le_refl _), show p4 (r.length : Int) ++ r.flatMap p4 = body r from rfl]
    refine Ev.step (f := fun k => (tape_Sum.f k (body r)).bind fun t146 => ((tape_put.f (body r) t146).bind fun t147 => (if (wrap64 ((t.length : Int) + (t147.length : Int))) > 1048576 then (some (([] : List Int), 0, 12)) else (if t.length + t147.length < 140737488355328 then (some ((t ++ t147), s, 0)) else (none))))) (fun k => ?_) ?_
    · simp only [tape_Write.l0]
      rw [if_neg (by omega)]
    · refine Ev.bind (ev_sum (body_bytes r) (by rw [body_len]; omega)) ?_
      rw [put_is (by rw [body_len]; omega), Option.bind_some]
      have he : body r ++ p4 (sm 1 (body r)) = enc r := rfl
      have hel := enc_len r
      rw [he, w64 (by omega) (by omega), if_neg (by omega), if_pos (by omega)]
      exact Ev.now _
  | succ d ih =>
    intro i hi
    have hil : i < r.length := by omega
    obtain ⟨h0, h1⟩ := hr r[i] (List.getElem_mem hil)
    refine Ev.step (f := fun k => tape_Write.l0 k (p4 r.length ++ (r.take (i + 1)).flatMap p4) r (r.length : Int) ((i + 1 : Nat) : Int) t s) (fun k => ?_) (ih (i + 1) (by omega))
    simp only [tape_Write.l0]
    have hfl : ((r.take i).flatMap p4).length ≤ 4 * 4000 := by rw [flat_len, List.length_take]; omega
    rw [if_pos (by omega), if_pos (by omega), if_pos (by omega), rd_eq hil, if_neg (by omega), if_neg (by omega), put_is (by rw [List.length_append, p4_len]; omega), Option.bind_some, w64 (by omega) (by omega)]
    rw [List.append_assoc, List.take_succ_eq_append_getElem hil, List.flatMap_append]
    simp only [List.flatMap_cons, List.flatMap_nil, List.append_nil]
    rw [show ((i : Int) + 1) = ((i + 1 : Nat) : Int) by omega]
theorem write_ok {t r : List Int} {s : Int} (h0 : 0 ≤ s) (h1 : s ≤ t.length) (hr : okn r) (hrl : r.length ≤ 4000) (ht : t.length + (8 + 4 * r.length) ≤ 1048576) : Ev (fun k => tape_Write.f k t s r) (t ++ enc r, s, 0) := by
  refine Ev.congr (f := fun k => tape_Write.l0 k (p4 r.length ++ (r.take 0).flatMap p4) r (r.length : Int) ((0 : Nat) : Int) t s) (fun k => ?_) (write_l r t s hr hrl ht r.length 0 (by omega))
  unfold tape_Write.f
  rw [open_is h0 h1 (by omega)]
  simp only [Option.bind_some, if_true]
  rw [if_neg (by omega), put_is (by decide)]
  simp

/-! ### reading -/
/-- The numbers of a record, from a place on: how they are read. -/
def nums4 (b : List Int) (n : Nat) : List Int := (List.range n).map fun i => g4 (b.drop (4 + 4 * i))
/-- The first record, if it is whole. -/
def pf (b : List Int) : Option (List Int × Nat) :=
  if b.length < 4 then none else
    if g4 b > 4000 then none else
      if b.length < 8 + 4 * (g4 b).toNat then none else
        if g4 (b.drop (4 + 4 * (g4 b).toNat)) ≠ sm 1 (b.take (4 + 4 * (g4 b).toNat)) then none else
          if (nums4 b (g4 b).toNat).all (fun x => decide (x ≤ 2147483647)) then some (nums4 b (g4 b).toNat, 8 + 4 * (g4 b).toNat) else none
/-- What 'first' answers. -/
def pfo (o : Option (List Int × Nat)) : List Int × Int × Bool := match o with | some (l, m) => (l, (m : Int), true) | none => ([], 0, false)
theorem nums4_len (b : List Int) (n : Nat) : (nums4 b n).length = n := by simp [nums4]
theorem nums4_succ (b : List Int) (n : Nat) : nums4 b (n + 1) = nums4 b n ++ [g4 (b.drop (4 + 4 * n))] := by simp [nums4, List.range_succ]
theorem first_l (b : List Int) (hb : bytes b) (n : Nat) (hn : n ≤ 4000) (hl : 8 + 4 * n ≤ b.length) (hbl : b.length ≤ 1048576) (d : Nat) : ∀ (i : Nat), i + d = n → (nums4 b i).all (fun x => decide (x ≤ 2147483647)) = true →
    Ev (fun k => tape_first.l0 k b ((4 + 4 * n : Nat) : Int) (nums4 b i) ((4 + 4 * i : Nat) : Int)) (pfo (if (nums4 b n).all (fun x => decide (x ≤ 2147483647)) then some (nums4 b n, 8 + 4 * n) else none)) := by
  induction d with
  | zero =>
    intro i hi ha
    obtain rfl : i = n := by omega
    refine Ev.step (f := fun _ => some (pfo (if (nums4 b i).all (fun x => decide (x ≤ 2147483647)) then some (nums4 b i, 8 + 4 * i) else none))) (fun k => ?_) (Ev.now _)
    simp only [tape_first.l0]
    rw [if_neg (by omega), if_pos ha, w64 (by omega) (by omega)]
    simp only [pfo]
    congr 3
    omega
  | succ d ih =>
    intro i hi ha
    have hg := get_is (bytes_drop hb (4 + 4 * i)) (by rw [List.length_drop]; omega)
    by_cases hx : g4 (b.drop (4 + 4 * i)) > 2147483647
    · refine Ev.step (f := fun _ => some (([] : List Int), (0 : Int), false)) (fun k => ?_) ?_
      · simp only [tape_first.l0]
        rw [if_pos (by omega), if_pos (by omega), if_pos (by omega), Int.toNat_natCast, hg, Option.bind_some, if_pos hx]
      · have hf : (nums4 b n).all (fun x => decide (x ≤ 2147483647)) = false := by
          rw [Bool.eq_false_iff]
          intro h
          rw [List.all_eq_true] at h
          have := h (g4 (b.drop (4 + 4 * i))) (by unfold nums4; exact List.mem_map.2 ⟨i, List.mem_range.2 (by omega), rfl⟩)
          have := of_decide_eq_true this
          omega
        rw [hf]
        exact Ev.now _
    · refine Ev.step (f := fun k => tape_first.l0 k b ((4 + 4 * n : Nat) : Int) (nums4 b (i + 1)) ((4 + 4 * (i + 1) : Nat) : Int)) (fun k => ?_) (ih (i + 1) (by omega) ?_)
      · simp only [tape_first.l0]
        rw [if_pos (by omega), if_pos (by omega), if_pos (by omega), Int.toNat_natCast, hg, Option.bind_some, if_neg hx, if_pos (by rw [nums4_len]; omega), w64 (by omega) (by omega), nums4_succ]
        congr 1
      · rw [nums4_succ, List.all_append, ha]
        simp only [List.all_cons, List.all_nil, Bool.and_true, Bool.true_and]
        exact decide_eq_true (by omega)
theorem first_is {b : List Int} (hb : bytes b) (hbl : b.length ≤ 1048576) : Ev (fun k => tape_first.f k b) (pfo (pf b)) := by
  unfold pf
  by_cases h4 : b.length < 4
  · rw [if_pos h4]
    refine Ev.congr (f := fun _ => some (([] : List Int), (0 : Int), false)) (fun k => ?_) (Ev.now _)
    unfold tape_first.f
    rw [if_pos (by omega)]
  · rw [if_neg h4]
    have hg := get_is hb (by omega)
    obtain ⟨g0, g1⟩ := g4_in hb
    have hbody : ∀ k, tape_first.f k b = (if g4 b > 4000 then (tape_first.j0 k b (wrap64 (4 + (wrap64 (4 * g4 b)))) true) else (if (b.length : Int) < (wrap64 ((wrap64 (4 + (wrap64 (4 * g4 b)))) + 4)) then (tape_first.j0 k b (wrap64 (4 + (wrap64 (4 * g4 b)))) true) else (if 0 ≤ (wrap64 (4 + (wrap64 (4 * g4 b)))) then (if (wrap64 (4 + (wrap64 (4 * g4 b)))) ≤ (b.length : Int) then ((tape_get.f (b.drop ((wrap64 (4 + (wrap64 (4 * g4 b)))) : Int).toNat)).bind fun t227 => ((tape_Sum.f k (b.take ((wrap64 (4 + (wrap64 (4 * g4 b)))) : Int).toNat)).bind fun t229 => (tape_first.j0 k b (wrap64 (4 + (wrap64 (4 * g4 b)))) (t227 != t229)))) else (none)) else (none)))) := by
      intro k
      unfold tape_first.f
      rw [if_neg (by omega), hg, Option.bind_some]
    have htrue : ∀ e, Ev (fun k => tape_first.j0 k b e true) (([] : List Int), (0 : Int), false) := fun e =>
      Ev.step (f := fun _ => some (([] : List Int), (0 : Int), false)) (fun k => by simp only [tape_first.j0, if_true]) (Ev.now _)
    have hw1 : wrap64 (4 + (wrap64 (4 * g4 b))) = 4 + 4 * g4 b := by rw [w64 (n := 4 * g4 b) (by omega) (by omega), w64 (by omega) (by omega)]
    have hw2 : wrap64 (4 + 4 * g4 b + 4) = 8 + 4 * g4 b := by rw [w64 (by omega) (by omega)]; omega
    by_cases h5 : g4 b > 4000
    · rw [if_pos h5]
      exact Ev.congr (fun k => by rw [hbody, if_pos h5]) (htrue _)
    · rw [if_neg h5]
      obtain ⟨n, hn⟩ := Int.eq_ofNat_of_zero_le g0
      have hnn : (g4 b).toNat = n := by rw [hn]; exact Int.toNat_natCast n
      rw [hnn]
      by_cases h6 : b.length < 8 + 4 * n
      · rw [if_pos h6]
        exact Ev.congr (fun k => by rw [hbody, if_neg h5, hw1, hw2, if_pos (by omega)]) (htrue _)
      · rw [if_neg h6]
        have e1 : (4 + 4 * g4 b) = ((4 + 4 * n : Nat) : Int) := by omega
        have hgd := get_is (bytes_drop hb (4 + 4 * n)) (by rw [List.length_drop]; omega)
        have hall : ∀ k, tape_first.f k b = (tape_Sum.f k (b.take (4 + 4 * n))).bind fun t229 => (tape_first.j0 k b ((4 + 4 * n : Nat) : Int) (g4 (b.drop (4 + 4 * n)) != t229)) := by
          intro k
          rw [hbody, if_neg h5, hw1, hw2, if_neg (by omega), if_pos (by omega), if_pos (by omega), e1, Int.toNat_natCast, hgd, Option.bind_some]
        refine Ev.congr hall (Ev.bind (ev_sum (bytes_take hb _) (by rw [List.length_take]; omega)) ?_)
        by_cases h7 : g4 (b.drop (4 + 4 * n)) = sm 1 (b.take (4 + 4 * n))
        · rw [if_neg (fun h => h h7), h7]
          refine Ev.step (f := fun k => tape_first.l0 k b ((4 + 4 * n : Nat) : Int) (nums4 b 0) ((4 + 4 * 0 : Nat) : Int)) (fun k => ?_) (first_l b hb n (by omega) (by omega) hbl n 0 (by omega) rfl)
          simp only [tape_first.j0]
          rw [if_neg (by simp)]
          rfl
        · rw [if_pos h7]
          refine Ev.congr (fun k => ?_) (htrue ((4 + 4 * n : Nat) : Int))
          rw [show (g4 (b.drop (4 + 4 * n)) != sm 1 (b.take (4 + 4 * n))) = true from bne_iff_ne.mpr h7]
theorem pf_some {b l : List Int} {m : Nat} (h : pf b = some (l, m)) : 8 ≤ m ∧ m ≤ b.length ∧ m = 8 + 4 * (g4 b).toNat ∧ l = nums4 b (g4 b).toNat := by
  unfold pf at h
  split at h
  · cases h
  split at h
  · cases h
  split at h
  · cases h
  split at h
  · cases h
  split at h
  · injection h with h
    injection h with h1 h2
    subst h1; subst h2
    exact ⟨by omega, by omega, rfl, rfl⟩
  · cases h

/-- All whole records, one behind the other, and how many bytes they have. -/
def ra : Nat → List Int → List (List Int) × Nat
  | 0, _ => ([], 0)
  | k + 1, b => match pf b with
    | some (l, m) => (l :: (ra k (b.drop m)).1, m + (ra k (b.drop m)).2)
    | none => ([], 0)
theorem ra_none {k : Nat} {b : List Int} (h : pf b = none) : ra k b = ([], 0) := by cases k <;> simp [ra, h]
theorem ra_some {k : Nat} {b l : List Int} {m : Nat} (h : pf b = some (l, m)) : ra (k + 1) b = (l :: (ra k (b.drop m)).1, m + (ra k (b.drop m)).2) := by simp [ra, h]
theorem ra_le (k : Nat) (b : List Int) : (ra k b).2 ≤ b.length ∧ 8 * (ra k b).1.length ≤ (ra k b).2 := by
  induction k generalizing b with
  | zero => simp [ra]
  | succ k ih =>
    cases h : pf b with
    | none => rw [ra_none h]; simp
    | some x =>
      obtain ⟨l, m⟩ := x
      obtain ⟨h8, hm, _, _⟩ := pf_some h
      rw [ra_some h]
      have := ih (b.drop m)
      rw [List.length_drop] at this
      simp only [List.length_cons]
      omega
theorem ra_more (k k' : Nat) (b : List Int) (h : b.length < k) (h' : b.length < k') : ra k b = ra k' b := by
  induction k generalizing k' b with
  | zero => omega
  | succ k ih =>
    obtain ⟨k', rfl⟩ : ∃ m, k' = m + 1 := ⟨k' - 1, by omega⟩
    cases hp : pf b with
    | none => rw [ra_none hp, ra_none hp]
    | some x =>
      obtain ⟨l, m⟩ := x
      obtain ⟨h8, hm, _, _⟩ := pf_some hp
      rw [ra_some hp, ra_some hp, ih k' (b.drop m) (by rw [List.length_drop]; omega) (by rw [List.length_drop]; omega)]
/-- All whole records of bytes. -/
def rec (b : List Int) : List (List Int) × Nat := ra (b.length + 1) b
theorem rec_none {b : List Int} (h : pf b = none) : rec b = ([], 0) := ra_none h
theorem rec_some {b l : List Int} {m : Nat} (h : pf b = some (l, m)) : rec b = (l :: (rec (b.drop m)).1, m + (rec (b.drop m)).2) := by
  obtain ⟨h8, hm, _, _⟩ := pf_some h
  unfold rec
  rw [ra_some h, ra_more b.length ((b.drop m).length + 1) (b.drop m) (by rw [List.length_drop]; omega) (by omega)]
theorem read_l (b : List Int) (hb : bytes b) (hbl : b.length ≤ 1048576) (s : Int) (d : Nat) : ∀ (i : Nat) (acc : List (List Int)), b.length - i ≤ d → i ≤ b.length → acc.length + (b.length - i) ≤ 1048576 →
    Ev (fun k => tape_Read.l0 k acc (i : Int) b s) (acc ++ (rec (b.drop i)).1, ((i + (rec (b.drop i)).2 : Nat) : Int), 0) := by
  induction d with
  | zero =>
    intro i acc hd hi ha
    have hnone : pf (b.drop i) = none := by unfold pf; rw [if_pos (by rw [List.length_drop]; omega)]
    rw [rec_none hnone]
    have hf := first_is (bytes_drop hb i) (by rw [List.length_drop]; omega)
    rw [hnone] at hf
    refine Ev.step (f := fun k => (tape_first.f k (b.drop i)).bind fun bt246 => (if bt246.2.2 = true then (if acc.length < 5864062014805 then (tape_Read.l0 k (acc ++ [bt246.1]) (wrap64 ((i : Int) + bt246.2.1)) b s) else (none)) else (some (acc, (i : Int), 0)))) (fun k => ?_) (Ev.bind hf ?_)
    · simp only [tape_Read.l0]
      rw [if_pos (by omega), if_pos (by omega), Int.toNat_natCast]
    · simp only [pfo, List.append_nil, Nat.add_zero]
      exact Ev.now _
  | succ d ih =>
    intro i acc hd hi ha
    have hf := first_is (bytes_drop hb i) (by rw [List.length_drop]; omega)
    refine Ev.step (f := fun k => (tape_first.f k (b.drop i)).bind fun bt246 => (if bt246.2.2 = true then (if acc.length < 5864062014805 then (tape_Read.l0 k (acc ++ [bt246.1]) (wrap64 ((i : Int) + bt246.2.1)) b s) else (none)) else (some (acc, (i : Int), 0)))) (fun k => ?_) (Ev.bind hf ?_)
    · simp only [tape_Read.l0]
      rw [if_pos (by omega), if_pos (by omega), Int.toNat_natCast]
    · cases hp : pf (b.drop i) with
      | none =>
        rw [rec_none hp]
        simp only [pfo, List.append_nil, Nat.add_zero]
        exact Ev.now _
      | some x =>
        obtain ⟨l, m⟩ := x
        obtain ⟨h8, hm, _, _⟩ := pf_some hp
        rw [List.length_drop] at hm
        rw [rec_some hp]
        simp only [pfo, if_true]
        simp only [if_pos (show acc.length < 5864062014805 by omega), w64 (n := (i : Int) + (m : Int)) (by omega) (by omega), List.drop_drop]
        have := ih (i + m) (acc ++ [l]) (by omega) (by omega) (by rw [List.length_append]; simp only [List.length_cons, List.length_nil]; omega)
        rw [List.append_assoc] at this
        rw [show ((i : Int) + (m : Int)) = ((i + m : Nat) : Int) by omega, ← Nat.add_assoc]
        exact this
theorem read_is {b : List Int} {s : Int} (hb : bytes b) (hbl : b.length ≤ 1048576) (h0 : 0 ≤ s) (h1 : s ≤ b.length) : Ev (fun k => tape_Read.f k b s) ((rec b).1, ((rec b).2 : Int), 0) := by
  refine Ev.congr (f := fun k => tape_Read.l0 k [] ((0 : Nat) : Int) b s) (fun k => ?_) ?_
  · unfold tape_Read.f
    rw [open_is h0 h1 hbl]
    simp
  · have := read_l b hb hbl s b.length 0 [] (by omega) (by omega) (by simp; omega)
    simpa using this
theorem repair_is {b : List Int} {s : Int} (hb : bytes b) (hbl : b.length ≤ 1048576) (h0 : 0 ≤ s) (h1 : s ≤ b.length) : Ev (fun k => tape_Repair.f k b s) (b.take (rec b).2, min s ((rec b).2 : Int), 0) := by
  have hle := (ra_le (b.length + 1) b).1
  unfold tape_Repair.f
  refine Ev.bind (read_is hb hbl h0 h1) ?_
  simp only [if_true]
  have hle' : (rec b).2 ≤ b.length := hle
  rw [if_pos (by omega), if_pos (by omega), Int.toNat_natCast, clone_is (by rw [List.length_take]; omega), Option.bind_some, mn_eq]
  exact Ev.now _
/-- A record is read as it was written, whatever stands behind it. -/
theorem nums4_enc (r t : List Int) (hr : okn r) (d : List Int) : ∀ (i : Nat), i ≤ r.length → nums4 (p4 r.length ++ (r.flatMap p4 ++ t)) i = r.take i := by
  intro i
  induction i with
  | zero => intro _; simp [nums4]
  | succ i ih =>
    intro hi
    have hil : i < r.length := by omega
    rw [nums4_succ, ih (by omega), List.take_succ_eq_append_getElem hil]
    congr 2
    have hsplit : r.flatMap p4 = (r.take i).flatMap p4 ++ (p4 r[i] ++ (r.drop (i + 1)).flatMap p4) := by
      conv => lhs; rw [← List.take_append_drop i r, List.flatMap_append, List.drop_eq_getElem_cons hil, List.flatMap_cons]
    have hlen : (p4 (r.length : Int) ++ (r.take i).flatMap p4).length = 4 + 4 * i := by rw [List.length_append, flat_len, p4_len, List.length_take]; omega
    rw [hsplit, List.append_assoc, ← List.append_assoc, List.drop_append_of_le_length (by rw [hlen]; exact Nat.le_refl _), List.drop_of_length_le (by rw [hlen]; exact Nat.le_refl _), List.nil_append, List.append_assoc]
    obtain ⟨h0, h1⟩ := hr r[i] (List.getElem_mem hil)
    exact g4_p4 h0 (by omega) _
theorem pf_enc {r : List Int} (t : List Int) (hr : okn r) (hrl : r.length ≤ 4000) : pf (enc r ++ t) = some (r, 8 + 4 * r.length) := by
  have hg : g4 (enc r ++ t) = r.length := by
    unfold enc body
    rw [List.append_assoc, List.append_assoc]
    exact g4_p4 (by omega) (by omega) _
  have hl : (enc r ++ t).length = 8 + 4 * r.length + t.length := by rw [List.length_append, enc_len]
  have hsm := sm_in (body r) (s := 1) (by decide) (by decide)
  unfold pf
  rw [if_neg (by omega), hg, if_neg (by omega), Int.toNat_natCast, if_neg (by omega)]
  have htk : (enc r ++ t).take (4 + 4 * r.length) = body r := by
    unfold enc
    rw [List.append_assoc, ← body_len, List.take_left]
  have hdr : (enc r ++ t).drop (4 + 4 * r.length) = p4 (sm 1 (body r)) ++ t := by
    unfold enc
    rw [List.append_assoc, ← body_len, List.drop_left]
  have hn : nums4 (enc r ++ t) r.length = r := by
    have := nums4_enc r (p4 (sm 1 (body r)) ++ t) hr [] r.length (Nat.le_refl _)
    rw [List.take_of_length_le (Nat.le_refl _)] at this
    have he : enc r ++ t = p4 r.length ++ (r.flatMap p4 ++ (p4 (sm 1 (body r)) ++ t)) := by
      show (p4 r.length ++ r.flatMap p4 ++ p4 (sm 1 (body r))) ++ t = _
      simp only [List.append_assoc]
    rw [he]
    exact this
  rw [htk, hdr, g4_p4 (by omega) (by omega), if_neg (fun h => h rfl), hn, if_pos]
  rw [List.all_eq_true]
  exact fun x hx => decide_eq_true (hr x hx).2
/-- Of a record that is cut nothing is read. -/
theorem pf_cut {r : List Int} (t : List Int) (hr : okn r) (hrl : r.length ≤ 4000) {m : Nat} (hm : m < 8 + 4 * r.length) : pf ((enc r ++ t).take m) = none := by
  have hl : ((enc r ++ t).take m).length = m := by rw [List.length_take, List.length_append, enc_len]; omega
  unfold pf
  by_cases h4 : m < 4
  · rw [if_pos (by omega)]
  · rw [if_neg (by omega)]
    have hg : g4 ((enc r ++ t).take m) = r.length := by
      unfold enc body
      rw [List.append_assoc, List.append_assoc, List.take_append, List.take_of_length_le (by rw [p4_len]; omega)]
      exact g4_p4 (by omega) (by omega) _
    rw [hg, if_neg (by omega), Int.toNat_natCast, if_pos (by omega)]
/-- Records, one behind the other. -/
def encs_ (rs : List (List Int)) : List Int := rs.flatMap enc
def oks (rs : List (List Int)) : Prop := ∀ r ∈ rs, okn r ∧ r.length ≤ 4000
theorem encs_bytes (rs : List (List Int)) : bytes (encs_ rs) := fun x hx => by
  obtain ⟨y, _, hy⟩ := List.mem_flatMap.1 hx
  exact enc_bytes y x hy
theorem rec_encs (rs : List (List Int)) (t : List Int) (h : oks rs) : rec (encs_ rs ++ t) = (rs ++ (rec t).1, (encs_ rs).length + (rec t).2) := by
  induction rs with
  | nil => simp [encs_]
  | cons r rs ih =>
    obtain ⟨h1, h2⟩ := h r List.mem_cons_self
    have he : encs_ (r :: rs) = enc r ++ encs_ rs := rfl
    rw [he, List.append_assoc, rec_some (pf_enc _ h1 h2), ← enc_len, List.drop_left, ih (fun x hx => h x (List.mem_cons_of_mem _ hx))]
    simp only [List.cons_append, List.length_append]
    rw [Nat.add_assoc]
/-- Of the first bytes of records the first records are read, all of them just if all bytes are there. -/
theorem rec_take (rs : List (List Int)) (h : oks rs) : ∀ m, m ≤ (encs_ rs).length → ∃ j, j ≤ rs.length ∧ rec ((encs_ rs).take m) = (rs.take j, (encs_ (rs.take j)).length) ∧ (encs_ (rs.take j)).length ≤ m ∧ (j = rs.length ↔ m = (encs_ rs).length) := by
  induction rs with
  | nil =>
    intro m hm
    have : m = 0 := by simpa [encs_] using hm
    subst this
    exact ⟨0, by simp, by rw [rec_none (by unfold pf; rw [if_pos (by simp [encs_])])]; simp [encs_], by simp [encs_], by simp [encs_]⟩
  | cons r rs ih =>
    intro m hm
    obtain ⟨h1, h2⟩ := h r List.mem_cons_self
    have he : encs_ (r :: rs) = enc r ++ encs_ rs := rfl
    have hel := enc_len r
    rw [he, List.length_append] at hm ⊢
    by_cases hlt : m < 8 + 4 * r.length
    · refine ⟨0, by simp, ?_, by simp [encs_], ?_⟩
      · rw [rec_none (pf_cut _ h1 h2 hlt)]; simp [encs_]
      · constructor
        · intro h0; simp at h0
        · intro h0; omega
    · have htk : (enc r ++ encs_ rs).take m = enc r ++ (encs_ rs).take (m - (8 + 4 * r.length)) := by
        rw [List.take_append, List.take_of_length_le (by omega), hel]
      obtain ⟨j, hj, hj2, hj3, hj4⟩ := ih (fun x hx => h x (List.mem_cons_of_mem _ hx)) (m - (8 + 4 * r.length)) (by omega)
      refine ⟨j + 1, by simp; omega, ?_, ?_, ?_⟩
      · rw [htk, rec_some (pf_enc _ h1 h2), ← hel, List.drop_left, hel, hj2]
        simp only [List.take_succ_cons]
        rw [show encs_ (r :: rs.take j) = enc r ++ encs_ (rs.take j) from rfl, List.length_append, hel]
      · rw [List.take_succ_cons, show encs_ (r :: rs.take j) = enc r ++ encs_ (rs.take j) from rfl, List.length_append]
        omega
      · simp only [List.length_cons]
        omega

/-! ### the records of the laws -/
def rcd (l : List Int) : List Int := (l.take 12).map (pk · 2147483648)
theorem rcd_len (l : List Int) : (rcd l).length = min 12 l.length := by simp [rcd]
theorem rcd_ok (l : List Int) : okn (rcd l) := fun x hx => by
  obtain ⟨y, _, rfl⟩ := List.mem_map.1 hx
  have h0 := pk_lo y (m := 2147483648) (by decide)
  have h1 := pk_hi y (m := 2147483648) (by decide)
  omega
theorem record_l (l : List Int) (hw : ∀ y ∈ l, (Lit.int .i64 y).wf = true) (hl : l.length ≤ 9223372036854775807) (d : Nat) : ∀ (i : Nat), i + d = min 12 l.length →
    Ev (fun k => foretellkeep_record.l0 k l ((l.take i).map (pk · 2147483648)) (i : Int)) (rcd l) := by
  induction d with
  | zero =>
    intro i hi
    refine Ev.step (f := fun _ => some (rcd l)) (fun k => ?_) (Ev.now _)
    simp only [foretellkeep_record.l0]
    have hr : (l.take i).map (pk · 2147483648) = rcd l := by
      unfold rcd
      congr 1
      rcases Nat.le_total 12 l.length with h | h
      · rw [show i = 12 by omega]
      · rw [List.take_of_length_le (by omega), List.take_of_length_le (by omega)]
    by_cases hc : (i : Int) < (l.length : Int)
    · rw [if_pos hc, if_neg (by omega), hr]
    · rw [if_neg hc, hr]
  | succ d ih =>
    intro i hi
    have hil : i < l.length := by omega
    refine Ev.step (f := fun k => foretellkeep_record.l0 k l ((l.take (i + 1)).map (pk · 2147483648)) ((i + 1 : Nat) : Int)) (fun k => ?_) (ih (i + 1) (by omega))
    simp only [foretellkeep_record.l0]
    rw [if_pos (by omega), if_pos (by omega), if_pos (by omega), rd_eq hil, picked_is (hw _ (List.getElem_mem hil)) (by decide), Option.bind_some, if_pos (by simp only [List.length_map, List.length_take]; omega), w64 (by omega) (by omega)]
    rw [List.take_succ_eq_append_getElem hil, List.map_append]
    rfl
theorem record_is {l : List Int} (hw : ∀ y ∈ l, (Lit.int .i64 y).wf = true) (hl : l.length ≤ 9223372036854775807) : Ev (fun k => foretellkeep_record.f k l) (rcd l) := by
  have := record_l l hw hl (min 12 l.length) 0 (by omega)
  unfold foretellkeep_record.f
  simpa using this
theorem rd3_eq {l : List (List Int)} {i : Nat} (h : i < l.length) : rd_L3 l (i : Int) = l[i] := by
  unfold rd_L3
  rw [Int.toNat_natCast, List.getD_eq_getElem?_getD, List.getElem?_eq_getElem h]
  rfl
theorem sameInts_l (a b : List Int) (h : a = b) (hl : a.length ≤ 9223372036854775806) (d : Nat) : ∀ (i : Nat), i + d = a.length → Ev (fun k => foretellkeep_sameInts.l0 k a b (i : Int)) true := by
  subst h
  induction d with
  | zero =>
    intro i hi
    refine Ev.step (f := fun _ => some true) (fun k => ?_) (Ev.now _)
    simp only [foretellkeep_sameInts.l0]
    rw [if_neg (by omega)]
  | succ d ih =>
    intro i hi
    refine Ev.step (fun k => ?_) (ih (i + 1) (by omega))
    simp only [foretellkeep_sameInts.l0]
    rw [if_pos (by omega), if_pos (by omega), if_pos (by omega), if_pos trivial, w64 (by omega) (by omega)]
    rfl
theorem sameInts_is {a : List Int} (hl : a.length ≤ 9223372036854775806) : Ev (fun k => foretellkeep_sameInts.f k a a) true := by
  unfold foretellkeep_sameInts.f
  simp only [if_true]
  exact sameInts_l a a rfl hl a.length 0 (by omega)
theorem sameLists_l (a : List (List Int)) (hl : a.length ≤ 9223372036854775806) (hi' : ∀ x ∈ a, x.length ≤ 9223372036854775806) (d : Nat) : ∀ (i : Nat), i + d = a.length → Ev (fun k => foretellkeep_sameLists.l0 k a a (i : Int)) true := by
  induction d with
  | zero =>
    intro i hi
    refine Ev.step (f := fun _ => some true) (fun k => ?_) (Ev.now _)
    simp only [foretellkeep_sameLists.l0]
    rw [if_neg (by omega)]
  | succ d ih =>
    intro i hi
    have hil : i < a.length := by omega
    refine Ev.step (f := fun k => (foretellkeep_sameInts.f k a[i] a[i]).bind fun t258 => (if t258 = true then (foretellkeep_sameLists.l0 k a a ((i + 1 : Nat) : Int)) else (some false))) (fun k => ?_) (Ev.bind (sameInts_is (hi' _ (List.getElem_mem hil))) ?_)
    · simp only [foretellkeep_sameLists.l0]
      rw [if_pos (by omega), if_pos (by omega), if_pos (by omega), w64 (by omega) (by omega), rd3_eq hil]
      rfl
    · simp only [if_true]
      exact ih (i + 1) (by omega)
theorem sameLists_is {a : List (List Int)} (hl : a.length ≤ 9223372036854775806) (hi' : ∀ x ∈ a, x.length ≤ 9223372036854775806) : Ev (fun k => foretellkeep_sameLists.f k a a) true := by
  unfold foretellkeep_sameLists.f
  simp only [if_true]
  exact sameLists_l a hl hi' a.length 0 (by omega)
/-- The records of a law's lists. -/
def rcds (l : List (List Int)) (n : Nat) : List (List Int) := (l.take n).map rcd
theorem rcds_ok (l : List (List Int)) (n : Nat) : oks (rcds l n) := fun r hr => by
  obtain ⟨y, _, rfl⟩ := List.mem_map.1 hr
  exact ⟨rcd_ok y, by rw [rcd_len]; omega⟩
theorem rcds_len (l : List (List Int)) (n : Nat) : (rcds l n).length = min n l.length := by simp [rcds]
theorem rcds_small (l : List (List Int)) (n : Nat) : ∀ x ∈ rcds l n, x.length ≤ 12 := fun r hr => by
  obtain ⟨y, _, rfl⟩ := List.mem_map.1 hr
  rw [rcd_len]; omega
theorem encs_small (rs : List (List Int)) (h : ∀ x ∈ rs, x.length ≤ 12) : (encs_ rs).length ≤ 56 * rs.length := by
  induction rs with
  | nil => simp [encs_]
  | cons r rs ih =>
    have he : encs_ (r :: rs) = enc r ++ encs_ rs := rfl
    rw [he, List.length_append, enc_len, List.length_cons]
    have := ih (fun x hx => h x (List.mem_cons_of_mem _ hx))
    have := h r List.mem_cons_self
    omega
theorem encs_snoc (rs : List (List Int)) (r : List Int) : encs_ (rs ++ [r]) = encs_ rs ++ enc r := by simp [encs_]
theorem taped_l (l : List (List Int)) (hw : ∀ z ∈ l, z.length ≤ maxLen ∧ ∀ y ∈ z, (Lit.int .i64 y).wf = true) (d : Nat) : ∀ (i : Nat), i + d = min 10 l.length →
    Ev (fun k => foretellkeep_taped.l0 k l (rcds l i) (i : Int) (encs_ (rcds l i)) 0) (encs_ (rcds l 10), 0, rcds l 10, true) := by
  have hmx : maxLen = 9223372036854775807 := rfl
  induction d with
  | zero =>
    intro i hi
    have hr : rcds l i = rcds l 10 := by
      unfold rcds
      congr 1
      rcases Nat.le_total 10 l.length with h | h
      · rw [show i = 10 by omega]
      · rw [List.take_of_length_le (by omega), List.take_of_length_le (by omega)]
    rw [hr]
    refine Ev.step (f := fun k => foretellkeep_taped.j1 k l (rcds l 10) (i : Int) false (encs_ (rcds l 10)) 0) (fun k => ?_) (Ev.step (f := fun _ => some (encs_ (rcds l 10), 0, rcds l 10, true)) (fun k => ?_) (Ev.now _))
    · simp only [foretellkeep_taped.l0]
      by_cases hc : (i : Int) < (l.length : Int)
      · rw [if_pos hc, decide_eq_false (by omega)]
      · rw [if_neg hc]
    · simp only [foretellkeep_taped.j1]
      rw [if_neg (by decide)]
  | succ d ih =>
    intro i hi
    have hil : i < l.length := by omega
    have hsm := encs_small (rcds l i) (rcds_small l i)
    rw [rcds_len] at hsm
    have hrl := rcd_len l[i]
    obtain ⟨hz1, hz2⟩ := hw l[i] (List.getElem_mem hil)
    refine Ev.step (f := fun k => foretellkeep_taped.j1 k l (rcds l i) (i : Int) true (encs_ (rcds l i)) 0) (fun k => ?_) (Ev.step (f := fun k => (foretellkeep_record.f k l[i]).bind fun t209 => ((tape_Write.f k (encs_ (rcds l i)) 0 t209).bind fun bt212 => (if bt212.2.2 = 0 then (if (bt212.1.length : Int) = (wrap64 ((wrap64 (((encs_ (rcds l i)).length : Int) + 8)) + (wrap64 (4 * (t209.length : Int))))) then (if (rcds l i).length < 5864062014805 then (foretellkeep_taped.l0 k l (rcds l i ++ [t209]) ((i + 1 : Nat) : Int) bt212.1 bt212.2.1) else (none)) else (some (encs_ (rcds l i), 0, rcds l i, false))) else (some (encs_ (rcds l i), 0, rcds l i, false))))) (fun k => ?_) (Ev.bind (record_is hz2 hz1) (Ev.bind (write_ok (by omega) (by omega) (rcd_ok _) (by omega) (by omega)) ?_)))
    · simp only [foretellkeep_taped.l0]
      rw [if_pos (by omega), decide_eq_true (by omega)]
    · simp only [foretellkeep_taped.j1, if_true]
      rw [if_pos (by omega), if_pos (by omega), w64 (n := (i : Int) + 1) (by omega) (by omega), rd3_eq hil]
      rfl
    · simp only [if_true]
      rw [List.length_append, enc_len, w64 (n := ((encs_ (rcds l i)).length : Int) + 8) (by omega) (by omega), w64 (n := 4 * ((rcd l[i]).length : Int)) (by omega) (by omega), w64 (n := ((encs_ (rcds l i)).length : Int) + 8 + 4 * ((rcd l[i]).length : Int)) (by omega) (by omega)]
      simp only [if_pos (show (((encs_ (rcds l i)).length + (8 + 4 * (rcd l[i]).length) : Nat) : Int) = ((encs_ (rcds l i)).length : Int) + 8 + 4 * ((rcd l[i]).length : Int) by omega), if_pos (show (rcds l i).length < 5864062014805 by rw [rcds_len]; omega)]
      have hs : rcds l i ++ [rcd l[i]] = rcds l (i + 1) := by
        unfold rcds
        rw [List.take_succ_eq_append_getElem hil, List.map_append]
        rfl
      rw [← encs_snoc, hs]
      exact ih (i + 1) (by omega)
theorem taped_is {l : List (List Int)} (hw : ∀ z ∈ l, z.length ≤ maxLen ∧ ∀ y ∈ z, (Lit.int .i64 y).wf = true) : Ev (fun k => foretellkeep_taped.f k l) (encs_ (rcds l 10), 0, rcds l 10, true) := by
  have := taped_l l hw (min 10 l.length) 0 (by omega)
  unfold foretellkeep_taped.f
  simpa [rcds, encs_] using this
end Go.Proofs.Ytaologjglealoaa.Q
