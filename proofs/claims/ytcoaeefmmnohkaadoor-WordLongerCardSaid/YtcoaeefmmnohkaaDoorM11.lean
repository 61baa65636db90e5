-- PACKED by pack.py of this repo: FWord
import Derived.WalkSpells
import Derived.StillTailTactics
import Derived.Lib.AppendZeros
import Derived.Handy
import Derived.Test.YtcoaeefmmnohkaaDoorM2
import Derived.Test.YtcoaeefmmnohkaaDoorM5
section
namespace Go.Proofs.YtcoaeefmmnohkaaDoor.P
open Go.RowKit Go.Proofs.YtcoaeefmmnohkaaDoorW.PrintWords Go.Proofs.YtcoaeefmmnohkaaDoorW.PrintLast Go.Proofs.YtcoaeefmmnohkaaDoorW.PrintMore Go.Proofs.YtcoaeefmmnohkaaDoor.G
attribute [local go_sem] max2_int min2_int max_two min_two max_three min_three max_four min_four   -- for this text's walks alone
set_option linter.unusedVariables false
set_option linter.unusedSimpArgs false

--IMPORT Derived.WalkSpells
--IMPORT Derived.StillTailTactics
/-! ### word_fill_in: function 49 -/
/-- A row of truths that fills its block. -/
def BB (w : World) (g : Nat) (xs : List Bool) : Prop := w.heap[g]? = some (.cells (xs.map Value.bool).toArray 4 (0, 0))
section
variable {w w' w0 : World} {g : Nat} {xs : List Bool}
theorem BB.of (h : BB w g xs) (e : w'.heap[g]? = w.heap[g]?) : BB w' g xs := e.trans h
theorem BB.cell (h : BB w g xs) (i : Int) (h0 : 0 ≤ i) (h1 : i < (xs.length : Int)) : w.cell? ⟨g, i.toNat, none⟩ = some (.bool (rdOf false xs i)) := by
  have e := blk_cell h i.toNat
  rw [e]
  have hl : i.toNat < xs.length := by omega
  simp [rdOf, hl]
theorem BB.put (h : BB w g xs) (i : Int) (x : Bool) : BB (w.setCell ⟨g, i.toNat, none⟩ (.bool x)) g (xs.set i.toNat x) := by
  unfold BB
  exact blk_put h i.toNat _ (by simp [List.map_set])
end
theorem fill_first.calls (g5 ga n c : Nat) (ra : List Bool) (i : Int) (later : Bool) (w : World) (h5 : w.cell? ⟨g5, 0, none⟩ = some (.slice (some ⟨ga, 0, none⟩) n c)) (ha : BB w ga ra) (hn : ra.length = n) (h0 : 0 ≤ i) (h1 : i < (n : Int)) :
    Calls Tryd.prog 49 #[.int .i64 i, .bool later, .pointer (some ⟨g5, 0, none⟩)] w fun e w' => e = .returned (.bool (rdOf false ra i || later)) ∧ w' = w := by
  have hc := ha.cell i h0 (by rw [hn]; exact h1)
  have q0 := eq_true h0
  have q1 := eq_true h1
  clear h0 h1 ha
  cases hx : rdOf false ra i
  · rw [hx] at hc
    go_enter Tryd.func49, Tryd.ntmps49
    go_wp2
    go_ret
    exact ⟨rfl, rfl⟩
  · rw [hx] at hc
    go_enter Tryd.func49, Tryd.ntmps49
    go_wp2
    go_ret
    exact ⟨rfl, rfl⟩
theorem fill_second.calls (g5 ga n c : Nat) (ra : List Bool) (i : Int) (later : Bool) (w : World) (h5 : w.cell? ⟨g5, 0, none⟩ = some (.slice (some ⟨ga, 0, none⟩) n c)) (ha : BB w ga ra) (hn : ra.length = n) (h0 : 0 ≤ i) (h1 : i < (n : Int)) :
    Calls Tryd.prog 50 #[.int .i64 i, .bool later, .pointer (some ⟨g5, 0, none⟩)] w fun e w' => e = .returned (.bool (rdOf false ra i && later)) ∧ w' = w := by
  have hc := ha.cell i h0 (by rw [hn]; exact h1)
  have q0 := eq_true h0
  have q1 := eq_true h1
  clear h0 h1 ha
  cases hx : rdOf false ra i
  · rw [hx] at hc
    go_enter Tryd.func50, Tryd.ntmps50
    go_wp2
    go_ret
    exact ⟨rfl, rfl⟩
  · rw [hx] at hc
    go_enter Tryd.func50, Tryd.ntmps50
    go_wp2
    go_ret
    exact ⟨rfl, rfl⟩
theorem fill_third.calls (g6 g5 gb ga n c c2 : Nat) (ra rb : List Bool) (i : Int) (later : Bool) (w : World) (h6 : w.cell? ⟨g6, 0, none⟩ = some (.slice (some ⟨gb, 0, none⟩) n c2)) (h5 : w.cell? ⟨g5, 0, none⟩ = some (.slice (some ⟨ga, 0, none⟩) n c)) (hb : BB w gb rb) (hm : rb.length = n) (ha : BB w ga ra) (hn : ra.length = n) (h0 : 0 ≤ i) (h1 : i < (n : Int)) :
    Calls Tryd.prog 51 #[.int .i64 i, .bool later, .pointer (some ⟨g6, 0, none⟩), .pointer (some ⟨g5, 0, none⟩)] w fun e w' => e = .returned (.bool (rdOf false rb i || rdOf false ra i && later)) ∧ w' = w := by
  have hc := ha.cell i h0 (by rw [hn]; exact h1)
  have hd := hb.cell i h0 (by rw [hm]; exact h1)
  have q0 := eq_true h0
  have q1 := eq_true h1
  clear h0 h1 ha hb
  cases hx : rdOf false ra i <;> cases hy : rdOf false rb i <;> rw [hx] at hc <;> rw [hy] at hd
  all_goals go_enter Tryd.func51, Tryd.ntmps51
  all_goals go_wp2
  all_goals go_ret
  all_goals exact ⟨rfl, rfl⟩
theorem fill_fourth.calls (g6 g5 gb ga n c c2 : Nat) (ra rb : List Bool) (i : Int) (later : Bool) (w : World) (h6 : w.cell? ⟨g6, 0, none⟩ = some (.slice (some ⟨gb, 0, none⟩) n c2)) (h5 : w.cell? ⟨g5, 0, none⟩ = some (.slice (some ⟨ga, 0, none⟩) n c)) (hb : BB w gb rb) (hm : rb.length = n) (ha : BB w ga ra) (hn : ra.length = n) (h0 : 0 ≤ i) (h1 : i < (n : Int)) :
    Calls Tryd.prog 52 #[.int .i64 i, .bool later, .pointer (some ⟨g6, 0, none⟩), .pointer (some ⟨g5, 0, none⟩)] w fun e w' => e = .returned (.bool (rdOf false rb i && (rdOf false ra i || later))) ∧ w' = w := by
  have hc := ha.cell i h0 (by rw [hn]; exact h1)
  have hd := hb.cell i h0 (by rw [hm]; exact h1)
  have q0 := eq_true h0
  have q1 := eq_true h1
  clear h0 h1 ha hb
  cases hx : rdOf false ra i <;> cases hy : rdOf false rb i <;> rw [hx] at hc <;> rw [hy] at hd
  all_goals go_enter Tryd.func52, Tryd.ntmps52
  all_goals go_wp2
  all_goals go_ret
  all_goals exact ⟨rfl, rfl⟩

--IMPORT Derived.WalkSpells
--IMPORT Derived.StillTailTactics
--IMPORT Derived.Lib.AppendZeros
/-! ### word_grow: function 47 -/
theorem word_grow.calls (n : Nat) (h0 : 1 ≤ n) (h1 : n ≤ 100) (w : World) : Calls Tryd.prog 47 #[.slice none 0 0, .int .i64 n] w fun e w' => ∃ g c, e = .returned (.slice (some ⟨g, 0, none⟩) 0 c) ∧ w'.ownsRow w.heap.size 30 1 (.slice (some ⟨g, 0, none⟩) 0 c) 0 [] ∧ Below w.heap.size w w' := by
  have info := (by kernel_rfl : (Tryd.prog.info? 30).map (fun i => (i.zero, i.size, i.bytes)) = some (some (.slice none 0 0), 1, 24))
  obtain ⟨i0, hi, hzz⟩ := Option.map_eq_some_iff.1 info
  simp only [Prod.mk.injEq] at hzz
  obtain ⟨hz0, hz1, hz2⟩ := hzz
  have hr := Aside0.mk (Lib.run_append_nil_zeros (P := Tryd.prog) w 41 3 41 30 i0 _ .i64 .i64 Tryd.underlying41 Tryd.underlying3 hi hz0 n h0 (by omega) (by omega) (by rw [hz2]; omega))
  clear hi hz0 hz1 hz2 info
  have c1 : decide ((n : Int) < 0) = false := decide_eq_false (by omega)
  have c2 : wrap64 (n : Int) = n := by unfold wrap64; omega
  have c3 : (0 < n) = True := eq_true (by omega)
  have GC := Aside0.mk (grownCap_ge w n 0 30)
  have GM := Aside0.mk (grownCap_le_maxLen w n 0 30 (by unfold maxLen; omega))
  clear h0 h1
  generalize grownCap w n 0 30 = cap at hr GC GM
  go_enter Tryd.func47, Tryd.ntmps47
  go_wp2_with (at_builtin; go_must (refine Lib.wpList_append_run _ rfl (.tmp 20) (.tmp 21) 41 3 rfl (.slice none 0 0) (.int .i64 (wrap64 (n : Int))) rfl rfl _ _ (by rw [c2]; exact hr.out) ?_))
  clear hr
  go_wp2
  go_ret
  refine ⟨_, _, rfl, ?_, ?_⟩
  · exact World.ownsRow_made w.drew _ cap (Nat.le_refl _) GM.out (by simp [Builtin.zeroCells]; have := GC.out; omega)
  · exact (below_alloc (below_drew1 (Below.refl _ _)) _)

--IMPORT FWordGrow
--IMPORT Derived.WalkSpells
--IMPORT Derived.StillTailTactics
--IMPORT Derived.Handy
/-! ### word_concat: function 44 -/
/-- Cells that are copied as they are. -/
abbrev VV := {v : Value // v.oneCell' = true}
abbrev kV : Kd VV := Kd.scalar Subtype.val Subtype.property
set_option maxHeartbeats 8000000 in
set_option maxRecDepth 100000 in
theorem word_concat.calls (gq : Nat) (A1 A2 : Option Addr) (n1 n2 c1 c2 : Nat) (xs ys : List VV) (w : World) (hq0 : w.cell? ⟨gq, 0, none⟩ = some (.slice A1 n1 c1)) (hq1 : w.cell? ⟨gq, 1, none⟩ = some (.slice A2 n2 c2))
    (hx : kV.C w A1 n1 xs) (hy : kV.C w A2 n2 ys) (h0 : 1 ≤ n1 + n2) (h1 : n1 + n2 ≤ 100) :
    Calls Tryd.prog 44 #[.slice (some ⟨gq, 0, none⟩) 2 2] w fun e w' => ∃ v, e = .returned v ∧ kV.R 30 w' w.heap.size (fun k => w.heap.size ≤ k) v (xs ++ ys) ∧ Below w.heap.size w w' := by
  have info := (by kernel_rfl : (Tryd.prog.info? 30).map (fun i => (i.zero, i.size, i.bytes)) = some (some (.slice none 0 0), 1, 24))
  have m1 : wrap64 (n1 : Int) = n1 := by unfold wrap64; omega
  have m2 : wrap64 ((n1 : Int) + n2) = (n1 : Int) + n2 := by unfold wrap64; omega
  have d1 : decide ((n1 : Int) < 0) = false := decide_eq_false (by omega)
  have d2 : decide ((n1 : Int) + n2 < 0) = false := decide_eq_false (by omega)
  have H0 := Aside0.mk h0
  have H1 := Aside0.mk h1
  have HX := Aside0.mk hx
  have HY := Aside0.mk hy
  have HG := Aside0.mk (fun w : World => (by have q := word_grow.calls (n1 + n2) h0 h1 w; rw [Int.natCast_add] at q; exact q : Calls Tryd.prog 47 #[.slice none 0 0, .int .i64 ((n1 : Int) + n2)] w fun e w' => ∃ g c, e = .returned (.slice (some ⟨g, 0, none⟩) 0 c) ∧ w'.ownsRow w.heap.size 30 1 (.slice (some ⟨g, 0, none⟩) 0 c) 0 [] ∧ Below w.heap.size w w'))
  clear h0 h1 hx hy
  go_enter Tryd.func44, Tryd.ntmps44
  go_wp2
  refine wp_loop_rounds 3 ?_
  rw [rounds_succ]
  go_wp2
  rw [rounds_succ]
  go_wp2
  rw [rounds_succ]
  go_wp2_with (go_at_call 47; go_must (refine (HG.out w).mono ?_; rintro e w1 ⟨g, c, rfl, hr, hb⟩; have R0 := Aside0.mk (show kV.R 30 w1 w.heap.size (fun k => w.heap.size ≤ k) (.slice (some ⟨g, 0, none⟩) 0 c) [] from ⟨fun k hk => own_base hr k hk, [], hr, Reps.none _ _⟩); have B0 := Aside0.mk hb; clear hr hb))
  have hq2 : w1.cell? ⟨gq, 0, none⟩ = some (.slice A1 n1 c1) := pw_cell_below B0.out hq0
  have hq3 : w1.cell? ⟨gq, 1, none⟩ = some (.slice A2 n2 c2) := pw_cell_below B0.out hq1
  go_wp2
  refine wp_loop_rounds 3 ?_
  rw [rounds_succ]
  go_wp2_with (at_builtin; go_must (refine Kd.R_append_row Subtype.val (⟨.bool false, rfl⟩ : VV) (h1 := Subtype.property) (w0 := w) w.heap.size rfl (.tmp 31) (.tmp 32) 41 30 (.slice none 0 0) 24 rfl Tryd.underlying41 info rfl (by decide) (.slice (some ⟨g, 0, none⟩) 0 c) [] xs A1 n1 c1 (fun k => w.heap.size ≤ k) rfl rfl ?aF ?aO ?aC ?aB ?aS ?aL ?_; (case aF => exact fun k hk => Nat.le_trans (below_size B0.out) hk); (case aO => exact R0.out); (case aC => exact Kd.C_below HX.out B0.out); (case aB => exact B0.out); (case aS => exact below_size B0.out); (case aL => have := H1.out; have := Kd.C_len HX.out; have := Kd.C_len HY.out; simp; omega); intro v1 w2 ho hb2 hg hat; rw [List.nil_append] at ho; have R1 := Aside0.mk ho; have B1 := Aside0.mk hb2; clear ho hb2 hg hat))
  have hq4 : w2.cell? ⟨gq, 1, none⟩ = some (.slice A2 n2 c2) := pw_cell_below B1.out hq1
  rw [rounds_succ]
  go_wp2_with (at_builtin; go_must (refine Kd.R_append_row Subtype.val (⟨.bool false, rfl⟩ : VV) (h1 := Subtype.property) (w0 := w) w.heap.size rfl (.tmp 31) (.tmp 32) 41 30 (.slice none 0 0) 24 rfl Tryd.underlying41 info rfl (by decide) v1 xs ys A2 n2 c2 (fun k => w.heap.size ≤ k) rfl rfl ?aF ?aO ?aC ?aB ?aS ?aL ?_; (case aF => exact fun k hk => Nat.le_trans (below_size B1.out) hk); (case aO => exact R1.out); (case aC => exact Kd.C_below HY.out B1.out); (case aB => exact B1.out); (case aS => exact below_size B1.out); (case aL => have := H1.out; have := Kd.C_len HX.out; have := Kd.C_len HY.out; simp; omega); intro v2 w3 ho hb2 hg hat; have R2 := Aside0.mk ho; have B2 := Aside0.mk hb2; clear ho hb2 hg hat))
  rw [rounds_succ]
  go_wp2
  go_ret
  exact ⟨_, rfl, R2.out, B2.out⟩

--IMPORT FWordConcat
--IMPORT FWordFillIn
--IMPORT Derived.WalkSpells
--IMPORT Derived.StillTailTactics
/-! ### word_check: function 43 -/
/-- The slices of truths that stand in a row of cells. -/
def LR (w : World) (rs : List VV) (xs : List (List Bool)) : Prop := rs.length = xs.length ∧ ∀ (i : Nat) (r : VV) (x : List Bool), rs[i]? = some r → xs[i]? = some x → ∃ (A : Option Addr) (c : Nat), r.1 = Value.slice A x.length c ∧ Kd.C Kd.bool w A x.length x
theorem LR.below {w w1 : World} {rs : List VV} {xs : List (List Bool)} (h : LR w rs xs) (hb : Below w.heap.size w w1) : LR w1 rs xs :=
  ⟨h.1, fun i r x hr hx => by obtain ⟨A, c, e, hc⟩ := h.2 i r x hr hx; exact ⟨A, c, e, Kd.C_below hc hb⟩⟩
theorem LR.append {w : World} {rs ss : List VV} {xs ys : List (List Bool)} (h : LR w rs xs) (k : LR w ss ys) : LR w (rs ++ ss) (xs ++ ys) := by
  refine ⟨by rw [List.length_append, List.length_append, h.1, k.1], fun i r x hr hx => ?_⟩
  rcases Nat.lt_or_ge i rs.length with hi | hi
  · rw [List.getElem?_append_left hi] at hr
    rw [List.getElem?_append_left (by rw [← h.1]; exact hi)] at hx
    exact h.2 i r x hr hx
  · rw [List.getElem?_append_right hi] at hr
    rw [List.getElem?_append_right (by rw [← h.1]; exact hi), ← h.1] at hx
    exact k.2 _ r x hr hx
theorem LR.at {w : World} {rs : List VV} {xs : List (List Bool)} (h : LR w rs xs) (i : Nat) (hi : i < xs.length) : ∃ A c, (rdOf (⟨.bool false, rfl⟩ : VV) rs (i : Int)).1 = .slice A (xs.getD i []).length c ∧ Kd.C Kd.bool w A (xs.getD i []).length (xs.getD i []) := by
  have hr : i < rs.length := by rw [h.1]; exact hi
  obtain ⟨A, c, e, hc⟩ := h.2 i rs[i] xs[i] (List.getElem?_eq_getElem hr) (List.getElem?_eq_getElem hi)
  refine ⟨A, c, ?_, ?_⟩ <;> simp [rdOf, hr, hi, e, hc]
theorem raw_of {w : World} {A : Option Addr} {n : Nat} {xs : List (List Bool)} (h : Kd.C (Kd.slice 4 Kd.bool) w A n xs) : ∃ rs : List VV, kV.C w A n rs ∧ LR w rs xs := by
  obtain ⟨hn, hm, hc⟩ := h
  by_cases h0 : 0 < n
  · obtain ⟨ad, rfl, hcc⟩ := hc h0
    have key : ∀ j, ∃ r : VV, ∀ p, xs[j]? = some p → w.cell? (ad.add j) = some r.1 ∧ ∃ A c, r.1 = .slice A p.length c ∧ Kd.C Kd.bool w A p.length p := by
      intro j
      cases hj : xs[j]? with
      | none => exact ⟨⟨.bool false, rfl⟩, fun p hp => by cases hp⟩
      | some p =>
        obtain ⟨c, _, ⟨A, c0, rfl, _, hC⟩, hcell⟩ := hcc j p hj
        refine ⟨⟨.slice A p.length c0, rfl⟩, fun q hq => ?_⟩
        obtain rfl := Option.some.inj hq
        have := hcell 0 _ rfl
        rw [show j * (Kd.slice 4 Kd.bool).sz + 0 = j from by show j * 1 + 0 = j; omega] at this
        exact ⟨this, A, c0, rfl, hC⟩
    let f : Nat → VV := fun j => Classical.choose (key j)
    have hf := fun j => Classical.choose_spec (key j)
    have hget : ∀ i r, ((List.range n).map f)[i]? = some r → i < n ∧ r = f i := by
      intro i r hr
      rw [List.getElem?_map] at hr
      obtain ⟨k, hk, rfl⟩ := Option.map_eq_some_iff.1 hr
      obtain ⟨hl, e⟩ := List.getElem?_eq_some_iff.1 hk
      rw [List.getElem_range] at e
      subst e
      exact ⟨by rw [List.length_range] at hl; exact hl, rfl⟩
    refine ⟨(List.range n).map f, ⟨by simp, hm, fun _ => ⟨ad, rfl, fun j p hj => ?_⟩⟩, by simp [hn], fun i r x hr hx => ?_⟩
    · obtain ⟨hl, rfl⟩ := hget j p hj
      refine ⟨[(f j).1], rfl, rfl, fun i u hu => ?_⟩
      have hx : xs[j]? = some xs[j] := List.getElem?_eq_getElem (by omega)
      match i, hu with
      | 0, hu =>
        obtain rfl := Option.some.inj hu
        rw [show j * kV.sz + 0 = j from by show j * 1 + 0 = j; omega]
        exact (hf j _ hx).1
    · obtain ⟨hl, rfl⟩ := hget i r hr
      exact (hf i x hx).2
  · obtain rfl : n = 0 := by omega
    obtain rfl := List.eq_nil_of_length_eq_zero hn
    exact ⟨[], ⟨rfl, hm, fun h => absurd h (by omega)⟩, rfl, fun i r x hr => by simp at hr⟩
theorem two_new (w : World) (o1 : Obj) (cs : Array Value) (t : TypeId) : ((w.alloc o1).alloc (.cells cs t)).heap[w.heap.size + 1]? = some (.cells cs t (0, 0)) := by
  have h := blk_new (w.alloc o1) (.cells cs t)
  have e : (w.alloc o1).heap.size = w.heap.size + 1 := by unfold World.alloc; exact Array.size_push _
  rw [e] at h
  exact h
/-- What word.Check says. -/
def word_chk (stem loop : List (List Bool)) (props : Int) : Int :=
  if props < 0 then 2 else if 6 < props then 2 else if 12 < stem.length then 1 else if loop.length < 1 then 1 else if 12 < loop.length then 1 else if ∀ l ∈ stem ++ loop, (l.length : Int) = props then 0 else 3
set_option maxHeartbeats 8000000 in
set_option maxRecDepth 100000 in
theorem word_check.calls (A1 A2 : Option Addr) (n1 n2 c1 c2 : Nat) (stem loop : List (List Bool)) (props : Int) (w : World) (hx : Kd.C (Kd.slice 4 Kd.bool) w A1 n1 stem) (hy : Kd.C (Kd.slice 4 Kd.bool) w A2 n2 loop) :
    Calls Tryd.prog 43 #[.agg #[.slice A1 n1 c1, .slice A2 n2 c2], .int .i64 props] w fun e w' => e = .returned (.int .i64 (word_chk stem loop props)) ∧ Below w.heap.size w w' := by
  have info := (by kernel_rfl : (Tryd.prog.info? 30).map (fun i => (i.zero, i.size, i.bytes)) = some (some (.slice none 0 0), 1, 24))
  have HX := Aside0.mk hx
  have HY := Aside0.mk hy
  obtain rfl : n1 = stem.length := (Kd.C_len hx).symm
  obtain rfl : n2 = loop.length := (Kd.C_len hy).symm
  clear hx hy
  unfold word_chk
  by_cases q1 : props < 0
  · rw [if_pos q1]
    have d1 : decide (props < 0) = true := decide_eq_true q1
    clear q1
    go_enter Tryd.func43, Tryd.ntmps43
    go_wp2
    go_ret
    exact ⟨rfl, below_alloc (Below.refl _ _) _⟩
  rw [if_neg q1]
  have d1 : decide (props < 0) = false := decide_eq_false q1
  clear q1
  by_cases q2 : 6 < props
  · rw [if_pos q2]
    have d2 : decide (6 < props) = true := decide_eq_true q2
    clear q2
    go_enter Tryd.func43, Tryd.ntmps43
    go_wp2
    go_ret
    exact ⟨rfl, below_alloc (Below.refl _ _) _⟩
  rw [if_neg q2]
  have d2 : decide (6 < props) = false := decide_eq_false q2
  clear q2
  by_cases q3 : 12 < stem.length
  · rw [if_pos q3]
    have d3 : decide (12 < (stem.length : Int)) = true := decide_eq_true (by omega)
    clear q3
    go_enter Tryd.func43, Tryd.ntmps43
    go_wp2
    go_ret
    exact ⟨rfl, below_alloc (Below.refl _ _) _⟩
  rw [if_neg q3]
  have d3 : decide (12 < (stem.length : Int)) = false := decide_eq_false (by omega)
  have Q3 := Aside0.mk q3
  clear q3
  by_cases q4 : loop.length < 1
  · rw [if_pos q4]
    have d4 : decide ((loop.length : Int) < 1) = true := decide_eq_true (by omega)
    clear q4
    go_enter Tryd.func43, Tryd.ntmps43
    go_wp2
    go_ret
    exact ⟨rfl, below_alloc (Below.refl _ _) _⟩
  rw [if_neg q4]
  have d4 : decide ((loop.length : Int) < 1) = false := decide_eq_false (by omega)
  have Q4 := Aside0.mk q4
  clear q4
  by_cases q5 : 12 < loop.length
  · rw [if_pos q5]
    have d5 : decide (12 < (loop.length : Int)) = true := decide_eq_true (by omega)
    clear q5
    go_enter Tryd.func43, Tryd.ntmps43
    go_wp2
    go_ret
    exact ⟨rfl, below_alloc (Below.refl _ _) _⟩
  rw [if_neg q5]
  have d5 : decide (12 < (loop.length : Int)) = false := decide_eq_false (by omega)
  have Q5 := Aside0.mk q5
  clear q5
  obtain ⟨r, hr⟩ : ∃ r, (if ∀ l ∈ stem ++ loop, (l.length : Int) = props then (0 : Int) else 3) = r := ⟨_, rfl⟩
  rw [hr]
  have HR := Aside0.mk hr
  clear hr
  obtain ⟨rs, hrs, lrs⟩ := raw_of HX.out
  obtain ⟨ss, hss, lss⟩ := raw_of HY.out
  have RS := Aside0.mk hrs
  have SS := Aside0.mk hss
  have LL := Aside0.mk (lrs.append lss)
  clear hrs hss lrs lss
  go_enter Tryd.func43, Tryd.ntmps43
  go_wp2_with (go_at_call 44; go_must (refine (word_concat.calls (w.heap.size + 1) A1 A2 stem.length loop.length c1 c2 rs ss _ ((blk_cell (two_new w _ _ _) 0).trans rfl) ((blk_cell (two_new w _ _ _) 1).trans rfl) ?hx ?hy ?h0 ?h1).mono ?_; (case hx => exact Kd.C_below RS.out (below_alloc (below_alloc (Below.refl _ _) _) _)); (case hy => exact Kd.C_below SS.out (below_alloc (below_alloc (Below.refl _ _) _) _)); (case h0 => have := Q4.out; omega); (case h1 => have := Q3.out; have := Q5.out; omega); rintro e w1 ⟨v, rfl, hr, hb⟩; obtain ⟨g, cap, rfl, _, _, _⟩ := Kd.R_form hr (by have := Q4.out; rw [List.length_append, Kd.C_len RS.out, Kd.C_len SS.out]; omega); obtain ⟨m, hm⟩ : ∃ m, (rs ++ ss).length = m := ⟨_, rfl⟩; rw [hm] at hr ⊢; have R1 := Aside0.mk hr; have HM := Aside0.mk hm; clear hm; have B1 := Aside0.mk (below_step (below_alloc (below_alloc (Below.refl w.heap.size w) _) _) hb); have LL1 := Aside0.mk (LL.out.below B1.out); clear hr hb))
  have MX := Aside0.mk (show (stem ++ loop).length = m from by rw [← HM.out]; exact LL.out.1.symm)
  have ML := Aside0.mk (show m ≤ 24 from by have h := MX.out; have := Q3.out; have := Q5.out; rw [List.length_append] at h; omega)
  go_loopg [36] m (fun kq v36 wr => ∃ j : Nat, v36 = .int .i64 j ∧ j + kq = m ∧ wr = w1 ∧ Aside0 (∀ l ∈ (stem ++ loop).take j, (l.length : Int) = props))
  case atStart => exact ⟨0, rfl, by omega, rfl, ⟨by simp⟩⟩
  case round =>
    obtain ⟨j, rfl, hj, rfl, hA⟩ := hrel
    by_cases hlt : j < m
    · obtain ⟨Aj, cj, ej, _⟩ := LL1.out.at j (by rw [MX.out]; exact hlt)
      have cell := (Kd.R_celln (⟨.bool false, rfl⟩ : VV) R1.out (j : Int) (by omega) (by omega)).1
      rw [Int.toNat_natCast, ej] at cell
      have b1 : decide ((j : Int) < (m : Int)) = true := decide_eq_true (by omega)
      have b2 : ((j : Int) < (m : Int)) = True := eq_true (by omega)
      have b3 : wrap64 ((j : Int) + 1) = (j : Int) + 1 := by have := ML.out; unfold wrap64; omega
      have HJ := Aside0.mk hj
      have HT := Aside0.mk hlt
      clear hj hlt ej
      obtain ⟨x, hx⟩ : ∃ x, (stem ++ loop).getD j [] = x := ⟨_, rfl⟩
      have HXX := Aside0.mk hx
      rw [hx] at cell
      clear hx
      by_cases he : (x.length : Int) = props
      · have b4 : ((x.length : Int) != props) = false := by simp [he]
        have HE := Aside0.mk he
        clear he
        go_wp2
        go_roundg (m - (j + 1))
        case measure => have := HJ.out; have := HT.out; omega
        case rel =>
          refine ⟨j + 1, by simp; exact b3, by have := HT.out; omega, rfl, ⟨?_⟩⟩
          rw [List.take_add_one]
          intro l hl
          rcases List.mem_append.1 hl with h | h
          · exact hA.out l h
          · have hjl : j < (stem ++ loop).length := by rw [MX.out]; exact HT.out
            rw [List.getElem?_eq_getElem hjl] at h
            have e := HXX.out
            rw [List.getD_eq_getElem?_getD, List.getElem?_eq_getElem hjl] at e
            simp only [Option.toList_some, List.mem_singleton] at h
            rw [h, show (stem ++ loop)[j] = x from e]
            exact HE.out
      · have b4 : ((x.length : Int) != props) = true := by simp [he]
        have HE := Aside0.mk he
        clear he
        go_wp2
        go_ret
        refine ⟨?_, B1.out⟩
        obtain rfl : 3 = r := by
          rw [← HR.out, if_neg]
          intro hall
          have hjl : j < (stem ++ loop).length := by rw [MX.out]; exact HT.out
          have e := HXX.out
          rw [List.getD_eq_getElem?_getD, List.getElem?_eq_getElem hjl] at e
          exact HE.out (by rw [← show (stem ++ loop)[j] = x from e]; exact hall _ (List.getElem_mem hjl))
        rfl
    · have b1 : decide ((j : Int) < (m : Int)) = false := decide_eq_false (by omega)
      have b2 : ((j : Int) < (m : Int)) = False := eq_false (by omega)
      obtain rfl : j = m := by omega
      have HAll := Aside0.mk (show ∀ l ∈ stem ++ loop, (l.length : Int) = props from by have h := hA.out; rw [← MX.out, List.take_length] at h; exact h)
      clear hj hlt
      go_wp2
      go_ret
      refine ⟨?_, B1.out⟩
      obtain rfl : 0 = r := by rw [← HR.out, if_pos HAll.out]
      rfl

--IMPORT FWordFillIn
--IMPORT Derived.WalkSpells
--IMPORT Derived.StillTailTactics
/-! ### word_settle: function 48 -/
/-- The moment behind a moment. -/
def nxt (n : Nat) (back i : Int) : Int := if i + 1 < (n : Int) then i + 1 else back
theorem tb_behind.calls (g n cl : Nat) (Al : Option Addr) (i back : Int) (w : World) (h2 : w.cell? ⟨g, 2, none⟩ = some (.slice Al n cl)) (h3 : w.cell? ⟨g, 3, none⟩ = some (.int .i64 back)) (h0 : 0 ≤ i) (h1 : i < (n : Int)) (hn : n ≤ 100) :
    Calls Tryd.prog 53 #[.pointer (some ⟨g, 0, none⟩), .int .i64 i] w fun e w' => e = .returned (.int .i64 (nxt n back i)) ∧ w' = w := by
  have b1 : wrap64 (i + 1) = i + 1 := by unfold wrap64; omega
  unfold nxt
  by_cases hc : i + 1 < (n : Int)
  · rw [if_pos hc]
    have b2 : decide (i + 1 < (n : Int)) = true := decide_eq_true hc
    rw [← b1]
    rw [← b1] at b2
    clear h0 h1 hn hc b1
    go_enter Tryd.func53, Tryd.ntmps53
    go_wp2
    go_ret
    exact ⟨rfl, rfl⟩
  · rw [if_neg hc]
    have b2 : decide (i + 1 < (n : Int)) = false := decide_eq_false hc
    rw [← b1] at b2
    clear h0 h1 hn hc b1
    go_enter Tryd.func53, Tryd.ntmps53
    go_wp2
    go_ret
    exact ⟨rfl, rfl⟩
theorem nxt_in {n : Nat} {back i : Int} (h0 : 0 ≤ i) (hb0 : 0 ≤ back) (hb1 : back < (n : Int)) : 0 ≤ nxt n back i ∧ nxt n back i < (n : Int) := by
  unfold nxt
  split <;> omega
/-- One sweep from moment i - 1 down. -/
def swp (L : Int → Bool → Bool) (n : Nat) (back : Int) : Nat → List Bool → Bool → List Bool × Bool
  | 0, r, c => (r, c)
  | i + 1, r, c => if L (i : Int) (rdOf false r (nxt n back (i : Int))) = rdOf false r (i : Int) then swp L n back i r c else swp L n back i (r.set i (L (i : Int) (rdOf false r (nxt n back (i : Int))))) true
theorem swp_succ (L : Int → Bool → Bool) (n : Nat) (back : Int) (i : Nat) (r : List Bool) (c : Bool) : swp L n back (i + 1) r c = if L (i : Int) (rdOf false r (nxt n back (i : Int))) = rdOf false r (i : Int) then swp L n back i r c else swp L n back i (r.set i (L (i : Int) (rdOf false r (nxt n back (i : Int))))) true := rfl
/-- Sweeps till nothing changes. -/
def stl (L : Int → Bool → Bool) (n : Nat) (back : Int) : Nat → List Bool → Option (List Bool)
  | 0, _ => none
  | k + 1, r => if (swp L n back n r false).2 = true then stl L n back k (swp L n back n r false).1 else some (swp L n back n r false).1
/-- A row in its block while all else stays. -/
structure SW (w0 w : World) (gn : Nat) (r : List Bool) : Prop where
  row : BB w gn r
  keep : KeepBut w0 w gn none
  bel : Below gn w0 w
section
variable {w0 w w' : World} {gn : Nat} {r : List Bool}
theorem SW.put (h : SW w0 w gn r) (i : Int) (x : Bool) : SW w0 (w.setCell ⟨gn, i.toNat, none⟩ (.bool x)) gn (r.set i.toNat x) :=
  ⟨h.row.put i x, h.keep.set_ _ _, h.bel.setCell (p := ⟨gn, i.toNat, none⟩) (Nat.le_refl _) _⟩
theorem SW.drew (h : SW w0 w gn r) : SW w0 w.drew gn r := ⟨h.row, h.keep, h.bel.drew⟩
theorem SW.cell {k j : Nat} {v : Value} (h : SW w0 w gn r) (hc : w0.cell? ⟨k, j, none⟩ = some v) (hne : k ≠ gn) : w.cell? ⟨k, j, none⟩ = some v :=
  (World.cell?_of_block (w := w0) (w' := w) (h.keep.2 k (World.block_lt_of_cell? w0 _ hc) hne (by simp))).trans hc
end
set_option maxHeartbeats 16000000 in
set_option maxRecDepth 100000 in
theorem word_settle.calls (L : Int → Bool → Bool) (fn : FuncId) (caps : Array Value) (g gr gn n cn cl nf cr : Nat) (Al : Option Addr) (at_ back : Int) (begin_ : Bool) (r0 out : List Bool) (k : Nat) (w : World)
    (h2 : w.cell? ⟨g, 2, none⟩ = some (.slice Al n cl)) (h3 : w.cell? ⟨g, 3, none⟩ = some (.int .i64 back)) (h4 : w.cell? ⟨g, 4, none⟩ = some (.slice (some ⟨gr, 0, none⟩) nf cr)) (hr : w.cell? ⟨gr, at_.toNat, none⟩ = some (.slice (some ⟨gn, 0, none⟩) n cn))
    (hg : g ≠ gn) (ha0 : 0 ≤ at_) (ha1 : at_ < (nf : Int)) (hb0 : 0 ≤ back) (hb1 : back < (n : Int)) (hn : n ≤ 100) (hrow : BB w gn r0) (hl : r0.length = n)
    (hL : ∀ (w1 : World) (r1 : List Bool) (i : Int) (b : Bool), SW w w1 gn r1 → 0 ≤ i → i < (n : Int) → Calls Tryd.prog fn (#[.int .i64 i, .bool b] ++ caps) w1 fun e w' => e = .returned (.bool (L i b)) ∧ w' = w1)
    (hcf : ∀ (args : Array Value) (w : World), (callFunc fn args).run Tryd.prog w = .ok (.enter fn args) w) (h : stl L n back k (List.replicate n begin_) = some out) :
    Calls Tryd.prog 48 #[.pointer (some ⟨g, 0, none⟩), .int .i64 at_, .bool begin_, .func (.func fn) #[] caps] w fun e w' => e = .returned (.tuple #[]) ∧ SW w w' gn out ∧ out.length = n := by
  have q0 := eq_true ha0
  have q1 := eq_true ha1
  have HL := Aside0.mk hL
  have HS := Aside0.mk h
  have NB := Aside0.mk (And.intro hb0 (And.intro hb1 hn))
  have S0 := Aside0.mk (show SW w w gn r0 from ⟨hrow, KeepBut.refl _ _ _, Below.refl _ _⟩)
  have HG := Aside0.mk hg
  have HN := Aside0.mk hl
  have H2 := Aside0.mk h2
  have H3 := Aside0.mk h3
  clear ha0 ha1 hL h hb0 hb1 hn hrow hg hl h2 h3
  go_enter Tryd.func48, Tryd.ntmps48
  go_wp2
  go_loopg [22] n (fun kq v22 wr => ∃ j : Nat, v22 = .int .i64 j ∧ j + kq = n ∧ Aside0 (SW w wr gn (List.replicate j begin_ ++ r0.drop j)))
  case atStart => exact ⟨0, rfl, by omega, ⟨by simpa using S0.out⟩⟩
  case round =>
    obtain ⟨j, rfl, hj, hA⟩ := hrel
    by_cases hlt : j < n
    · have b1 : decide ((j : Int) < (n : Int)) = true := decide_eq_true (by omega)
      have b2 : ((j : Int) < (n : Int)) = True := eq_true (by omega)
      have b3 : wrap64 ((j : Int) + 1) = (j : Int) + 1 := by have := NB.out; unfold wrap64; omega
      have cell := hA.out.row.cell (j : Int) (by omega) (by have := HN.out; simp; omega)
      have fz := blk_frozen hA.out.row j
      rw [Int.toNat_natCast] at cell
      have HJ := Aside0.mk hj
      have HT := Aside0.mk hlt
      clear hj hlt
      go_wp2
      go_roundg (n - (j + 1))
      case measure => have := HJ.out; have := HT.out; omega
      case rel =>
        refine ⟨j + 1, by simp; exact b3, by have := HT.out; omega, ⟨?_⟩⟩
        have h := hA.out.put (j : Int) begin_
        rw [Int.toNat_natCast] at h
        have e : (List.replicate j begin_ ++ r0.drop j).set j begin_ = List.replicate (j + 1) begin_ ++ r0.drop (j + 1) := by
          have hd : r0.drop j = r0[j]'(by have := HN.out; have := HT.out; omega) :: r0.drop (j + 1) := List.drop_eq_getElem_cons _
          rw [hd, List.set_append, if_neg (by simp), List.length_replicate, Nat.sub_self, List.set_cons_zero, List.replicate_succ', List.append_assoc]
          rfl
        rw [← e]
        exact h
    · have b1 : decide ((j : Int) < (n : Int)) = false := decide_eq_false (by omega)
      have b2 : ((j : Int) < (n : Int)) = False := eq_false (by omega)
      obtain rfl : j = n := by omega
      have S1 := Aside0.mk (show SW w wr gn (List.replicate j begin_) from by have h := hA.out; rw [List.drop_eq_nil_of_le (by have := HN.out; omega), List.append_nil] at h; exact h)
      clear hA hlt hj b1
      go_wp2
      have hz := Aside0.mk b2
      clear b2
      go_loopg [10] (k + 1) (fun kq v10 wo => ∃ (r : List Bool) (c : Bool), v10 = .bool c ∧ r.length = j ∧ Aside0 (if c then 0 < kq ∧ stl L j back (kq - 1) r = some out else r = out) ∧ Aside0 (SW w wo gn r))
      case atStart => exact ⟨_, true, rfl, by simp, ⟨by simpa using HS.out⟩, S1⟩
      case round =>
        obtain ⟨r, c, rfl, hrl, hC, hS⟩ := hrel
        cases c with
        | false =>
          have hro := Aside0.mk (show r = out by simpa using hC.out)
          go_wp2
          go_end0
          exact ⟨rfl, (by have q := hS.out; rw [hro.out] at q; exact q), (by have q := hrl; rw [hro.out] at q; exact q)⟩
        | true =>
          have hc2 := hC.out
          simp only [if_true] at hc2
          obtain ⟨hk0, hst⟩ := hc2
          obtain ⟨ko, rfl⟩ : ∃ ko, gk = ko + 1 := ⟨gk - 1, by omega⟩
          rw [Nat.add_sub_cancel] at hst
          cases ko with
          | zero => exact absurd hst (by simp [stl])
          | succ m =>
            have HR := Aside0.mk hst
            have HRL := Aside0.mk hrl
            have HS0 := Aside0.mk hS.out
            have lenr : r.length = j := hrl
            have w1 : wrap64 ((j : Int) - 1) = (j : Int) - 1 := by have := NB.out; unfold wrap64; omega
            have W1 := Aside0.mk w1
            clear hk0 hst hC hrl hS lenr w1
            go_wp2
            go_loopg [10, 11] j (fun iq v10 v11 wi => ∃ (ri : List Bool) (c : Bool), v10 = .bool c ∧ v11 = .int .i64 ((iq : Int) - 1) ∧ ri.length = j ∧ iq ≤ j ∧ Aside0 (swp L j back iq ri c = swp L j back j r false) ∧ Aside0 (SW w wi gn ri))
            case atStart => exact ⟨r, false, rfl, by rw [W1.out], HRL.out, Nat.le_refl _, ⟨rfl⟩, HS0⟩
            case round =>
              obtain ⟨ri, c, rfl, rfl, hil, hij, hE, hI⟩ := hrel
              cases gk with
              | zero =>
                have e := hE.out
                have b1 : decide ((0 : Int) ≤ ((0 : Nat) : Int) - 1) = false := decide_eq_false (by omega)
                go_wp2
                go_roundg (m + 1)
                case measure => omega
                case rel =>
                  refine ⟨ri, c, rfl, hil, ⟨?_⟩, hI⟩
                  have q := HR.out
                  unfold stl at q
                  rw [← e] at q
                  cases c with
                  | false => simpa [swp] using q
                  | true => simpa [swp] using q
              | succ i =>
                have e := hE.out
                have b0 : (((i + 1 : Nat) : Int) - 1) = (i : Int) := by omega
                have b1 : decide ((0 : Int) ≤ (i : Int)) = true := decide_eq_true (by omega)
                have b2 : wrap64 ((i : Int) - 1) = (i : Int) - 1 := by have := NB.out; unfold wrap64; omega
                have nx := nxt_in (n := j) (back := back) (i := (i : Int)) (by omega) NB.out.1 NB.out.2.1
                obtain ⟨x, hx⟩ : ∃ x, nxt j back (i : Int) = x := ⟨_, rfl⟩
                rw [swp_succ] at e
                rw [hx] at e nx
                have HX := Aside0.mk hx
                have cx := hI.out.row.cell x nx.1 (by rw [hil]; exact nx.2)
                have ci := hI.out.row.cell (i : Int) (by omega) (by omega)
                have fz := blk_frozen hI.out.row i
                rw [Int.toNat_natCast] at ci
                have q2 := eq_true nx.1
                have q3 := eq_true nx.2
                have q4 : ((i : Int) < (j : Int)) = True := eq_true (by omega)
                have k2 := hI.out.cell H2.out HG.out
                have k3 := hI.out.cell H3.out HG.out
                obtain ⟨y, hy⟩ : ∃ y, rdOf false ri x = y := ⟨_, rfl⟩
                obtain ⟨z, hz⟩ : ∃ z, rdOf false ri (i : Int) = z := ⟨_, rfl⟩
                obtain ⟨v, hv⟩ : ∃ v, L (i : Int) y = v := ⟨_, rfl⟩
                rw [hy, hz, hv] at e
                rw [hy] at cx
                rw [hz] at ci
                have HE := Aside0.mk e
                have HIL := Aside0.mk hil
                have HIJ := Aside0.mk hij
                have HV := Aside0.mk hv
                have CB := Aside0.mk (fun w' => (by have q := HL.out w' ri (i : Int) y; rw [hv] at q; exact q : SW w w' gn ri → 0 ≤ (i : Int) → (i : Int) < (j : Int) → Calls Tryd.prog fn (#[.int .i64 (i : Int), .bool y] ++ caps) w' fun e w'' => e = .returned (.bool v) ∧ w'' = w'))
                clear e hx hy hz hv hil hij nx hE
                rw [b0]
                clear b0
                go_wp2_with (go_at_call 53; go_must (refine (tb_behind.calls g j cl Al (i : Int) back _ k2 k3 (by omega) (by have := HIJ.out; omega) NB.out.2.2).mono ?_; rintro e w' ⟨rfl, hww⟩; obtain rfl := hww; rw [HX.out]))
                go_wp2
                refine (CB.out _ hI.out (by omega) (by have := HIJ.out; omega)).mono ?_
                rintro e w2 ⟨rfl, hww⟩
                obtain rfl := hww
                have HI2 := Aside0.mk hI.out
                clear hI
                cases v <;> cases z
                all_goals go_wp2
                · go_roundg i
                  case measure => omega
                  case rel => exact ⟨ri, c, rfl, (by rw [b2]), HIL.out, (by have := HIJ.out; omega), ⟨by simpa using HE.out⟩, HI2⟩
                · go_roundg i
                  case measure => omega
                  case rel => exact ⟨ri.set i false, true, rfl, (by rw [b2]), (by rw [List.length_set]; exact HIL.out), (by have := HIJ.out; omega), ⟨by simpa using HE.out⟩, ⟨by have q := HI2.out.put (i : Int) false; rw [Int.toNat_natCast] at q; exact q⟩⟩
                · go_roundg i
                  case measure => omega
                  case rel => exact ⟨ri.set i true, true, rfl, (by rw [b2]), (by rw [List.length_set]; exact HIL.out), (by have := HIJ.out; omega), ⟨by simpa using HE.out⟩, ⟨by have q := HI2.out.put (i : Int) true; rw [Int.toNat_natCast] at q; exact q⟩⟩
                · go_roundg i
                  case measure => omega
                  case rel => exact ⟨ri, c, rfl, (by rw [b2]), HIL.out, (by have := HIJ.out; omega), ⟨by simpa using HE.out⟩, HI2⟩

--IMPORT FWordInnerCheck
--IMPORT FWordSettle
--IMPORT FPolishParts
--IMPORT Derived.WalkSpells
--IMPORT Derived.StillTailTactics
/-! ### word_tb: function 45 -/
section
variable {P : Program} {ops : Array Oper} {rest : List Oper} {o : Oper} {a : Act} {Q : Exit → Act → World → Prop}
/-- 'make([]T, n)' of one-cell elements: the block as it is. -/
theorem make_event {W : World} (hgd : o.guard = none) {N : Tmp} (_hd : o.dst = some N) (t e : TypeId) (x y : Operand) (ho : o.op = .makeSlice t x y) (n : Nat) (hx : a.eval x = .int .i64 n) (hy : a.eval y = .int .i64 n)
    (ht : P.underlying t = some (.slice e)) (z : Value) (bytes : Nat) (hinfo : (P.info? e).map (fun i => (i.zero, i.size, i.bytes)) = some (some z, 1, bytes)) (hz : z.cells = #[z]) (hl : (bytes : Int) * n ≤ 281474976710656) (hn : (n : Int) ≤ 9223372036854775807)
    (h : ∀ g, g = W.heap.size → ∀ w1, w1.heap[g]? = some (.cells (List.replicate n z).toArray e (0, 0)) → Below W.heap.size W w1 → wpList P ops Q rest (a.put o.dst (.slice (some ⟨g, 0, none⟩) n n)) w1) : wpList P ops Q (o :: rest) a W := by
  obtain ⟨i0, hi, hzz⟩ := Option.map_eq_some_iff.1 hinfo
  simp only [Prod.mk.injEq] at hzz
  obtain ⟨hz0, hz1, hz2⟩ := hzz
  have hr := run_make (P := P) W t e i0 z ht hi hz0 .i64 .i64 (n : Int) (n : Int) (by omega) (by omega) (by rw [hz2]; exact hl) hn
  simp only [Int.toNat_natCast] at hr
  rw [hz1, Nat.mul_one, hz, ← Array.toArray_toList (xs := madeCells #[z] n), toList_madeCells_one] at hr
  exact Kd.event_run hgd (by simp [execOp, ho, hx, hy, hr]) (h _ rfl _ (blk_new W _) (below_alloc (Below.refl _ _) _))
end
/-- The table in memory, its rows filled from place at_ on. wB: the world before its rows' block was made. -/
structure TB (wB w : World) (g gr : Nat) (Af Ae Al : Option Addr) (cf ce cl cr n : Nat) (f : List S51) (es : List Int) (rs : List VV) (xs : List (List Bool)) (back : Int) (at_ : Nat) (vals : List Value) (rows : List (List Bool)) : Prop where
  blk : w.heap[g]? = some (.cells #[.slice Af f.length cf, .slice Ae es.length ce, .slice Al n cl, .int .i64 back, .slice (some ⟨gr, 0, none⟩) f.length cr] 74 (0, 0))
  rblk : w.heap[gr]? = some (.cells vals.toArray 30 (0, 0))
  vlen : f.length ≤ vals.length
  fC : Kd.C k51 wB Af f.length f
  eC : Kd.C (Kd.int .i64) wB Ae es.length es
  lC : kV.C w Al n rs
  lA : ∀ ad : Addr, Al = some ad → 0 < n → ad.block ≠ gr
  lr : LR wB rs xs
  gl : Glob wB
  bel : Below wB.heap.size wB w
  gB : wB.heap.size ≤ g
  rB : wB.heap.size ≤ gr
  rlen : rows.length + at_ = f.length
  row : ∀ (p : Nat) (r : List Bool), rows[p]? = some r → ∃ (gw c : Nat), vals[at_ + p]? = some (.slice (some ⟨gw, 0, none⟩) n c) ∧ BB w gw r ∧ r.length = n
  own : ∀ (p : Nat) (v : Value), vals[at_ + p]? = some v → p < rows.length → ∃ gw : Nat, v = .slice (some ⟨gw, 0, none⟩) n n ∧ wB.heap.size ≤ gw
/-- While place at_ is filled: the new row's block, the other things as at the beginning (w0). -/
structure FS (wB w0 w : World) (gr gn at_ n : Nat) (vals : List Value) (r : List Bool) : Prop where
  keep : KeepBut w0 w gr none
  rb : w.heap[gr]? = some (.cells (vals.set at_ (.slice (some ⟨gn, 0, none⟩) n n)).toArray 30 (0, 0))
  bel : Below wB.heap.size wB w
  nw : BB w gn r
  ge : w0.heap.size ≤ gn
section
variable {wB w0 w w' : World} {g gr gn : Nat} {Af Ae Al : Option Addr} {cf ce cl cr n : Nat} {f : List S51} {es : List Int} {rs : List VV} {xs : List (List Bool)} {back : Int} {at_ a1 : Nat} {vals : List Value} {rows : List (List Bool)} {r r' : List Bool}
theorem FS.below (h : FS wB w0 w gr gn at_ n vals r) (hb : Below w.heap.size w w') : FS wB w0 w' gr gn at_ n vals r :=
  ⟨⟨Nat.le_trans h.keep.1 hb.size, fun i hi hg hr => (hb.block i (Nat.lt_of_lt_of_le hi h.keep.1)).trans (h.keep.2 i hi hg hr)⟩, blk_below h.rb hb, below_step h.bel hb, blk_below h.nw hb, h.ge⟩
theorem FS.drew (h : FS wB w0 w gr gn at_ n vals r) : FS wB w0 w.drew gr gn at_ n vals r := h.below (below_drew1 (Below.refl _ _))
theorem FS.drewN (h : FS wB w0 w gr gn at_ n vals r) (m : Nat) : FS wB w0 (w.drewN m) gr gn at_ n vals r := h.below (pw_below_drewN (Below.refl _ _) m)
theorem FS.far (h : FS wB w0 w gr gn at_ n vals r) {p : Addr} (hp : w0.heap.size ≤ p.block) (hn : gn ≠ p.block) (hB : wB.heap.size ≤ w0.heap.size) (hr : gr < w0.heap.size) (u : Value) : FS wB w0 (w.setCell p u) gr gn at_ n vals r :=
  ⟨keep_far h.keep hp u, blk_far h.rb (by omega) u, h.bel.setCell (by omega) u, blk_far h.nw hn u, h.ge⟩
theorem FS.sw (h : FS wB w0 w gr gn at_ n vals r) (s : SW w w' gn r') (hB : wB.heap.size ≤ w0.heap.size) (hr : gr < w0.heap.size) : FS wB w0 w' gr gn at_ n vals r' := by
  have hg := h.ge
  refine ⟨⟨Nat.le_trans h.keep.1 s.keep.1, fun i hi hg' hr' => (s.keep.2 i (Nat.lt_of_lt_of_le hi h.keep.1) (by omega) (by simp)).trans (h.keep.2 i hi hg' hr')⟩, (s.keep.2 gr (blk_lt h.rb) (by omega) (by simp)).trans h.rb, ?_, s.row, h.ge⟩
  exact h.bel.trans (s.bel.mono (by omega))
theorem TB.sizes (h : TB wB w0 g gr Af Ae Al cf ce cl cr n f es rs xs back a1 vals rows) : wB.heap.size ≤ w0.heap.size ∧ gr < w0.heap.size ∧ g < w0.heap.size ∧ g ≠ gr :=
  ⟨h.bel.size, blk_lt h.rblk, blk_lt h.blk, blk_ne h.blk h.rblk (by decide)⟩
theorem TB.blk' (h : TB wB w0 g gr Af Ae Al cf ce cl cr n f es rs xs back a1 vals rows) (s : FS wB w0 w gr gn at_ n vals r) : w.heap[g]? = some (.cells #[.slice Af f.length cf, .slice Ae es.length ce, .slice Al n cl, .int .i64 back, .slice (some ⟨gr, 0, none⟩) f.length cr] 74 (0, 0)) :=
  (s.keep.2 g h.sizes.2.2.1 h.sizes.2.2.2 (by simp)).trans h.blk
theorem TB.rows_ (h : TB wB w0 g gr Af Ae Al cf ce cl cr n f es rs xs back (at_ + 1) vals rows) (s : FS wB w0 w gr gn at_ n vals r) (p : Nat) (x : List Bool) (hp : rows[p]? = some x) :
    ∃ gw c, w.cell? ⟨gr, at_ + 1 + p, none⟩ = some (.slice (some ⟨gw, 0, none⟩) n c) ∧ BB w gw x ∧ x.length = n ∧ gw ≠ gn := by
  obtain ⟨gw, c, hv, hb, hl⟩ := h.row p x hp
  have hlt := blk_lt hb
  refine ⟨gw, c, ?_, (s.keep.2 gw hlt (blk_ne hb h.rblk (by decide)) (by simp)).trans hb, hl, by have := s.ge; omega⟩
  rw [blk_cell s.rb]
  rw [List.getElem?_toArray, List.getElem?_set_ne (by omega)]
  exact hv
theorem FS.cellv (s : FS wB w0 w gr gn at_ n vals r) {p : Nat} {v : Value} (hp : p ≠ at_) (hv : vals[p]? = some v) : w.cell? ⟨gr, p, none⟩ = some v := by
  rw [blk_cell s.rb, List.getElem?_toArray, List.getElem?_set_ne (fun e => hp e.symm)]
  exact hv
theorem FS.cella (s : FS wB w0 w gr gn at_ n vals r) (hp : at_ < vals.length) : w.cell? ⟨gr, at_, none⟩ = some (.slice (some ⟨gn, 0, none⟩) n n) := by
  rw [blk_cell s.rb, List.getElem?_toArray, List.getElem?_set_self hp]
theorem FS.bb (s : FS wB w0 w gr gn at_ n vals r) (h : TB wB w0 g gr Af Ae Al cf ce cl cr n f es rs xs back a1 vals rows) {gw : Nat} {x : List Bool} (hb : BB w0 gw x) : BB w gw x ∧ gw ≠ gn := by
  have hlt := blk_lt hb
  have hg := s.ge
  exact ⟨(s.keep.2 gw hlt (blk_ne hb h.rblk (by decide)) (by simp)).trans hb, by omega⟩
theorem TB.lAt (h : TB wB w0 g gr Af Ae Al cf ce cl cr n f es rs xs back a1 vals rows) (s : FS wB w0 w gr gn at_ n vals r) : kV.C w Al n rs := Kd.C_keep (⟨.bool false, rfl⟩ : VV) h.lC s.keep h.lA
theorem TB.done (h : TB wB w0 g gr Af Ae Al cf ce cl cr n f es rs xs back (at_ + 1) vals rows) (s : FS wB w0 w gr gn at_ n vals r) (hl : r.length = n) :
    TB wB w g gr Af Ae Al cf ce cl cr n f es rs xs back at_ (vals.set at_ (.slice (some ⟨gn, 0, none⟩) n n)) (r :: rows) := by
  have hr := h.rlen
  have hv := h.vlen
  refine ⟨h.blk' s, s.rb, by rw [List.length_set]; exact hv, h.fC, h.eC, h.lAt s, h.lA, h.lr, h.gl, s.bel, h.gB, h.rB, by rw [List.length_cons]; omega, ?_, ?_⟩
  rotate_left
  · intro p v hp hl'
    cases p with
    | zero =>
      rw [Nat.add_zero, List.getElem?_set_self (by omega)] at hp
      exact ⟨gn, (Option.some.inj hp).symm, Nat.le_trans h.bel.size s.ge⟩
    | succ p =>
      rw [List.getElem?_set_ne (by omega), show at_ + (p + 1) = at_ + 1 + p from by omega] at hp
      exact h.own p v hp (by rw [List.length_cons] at hl'; omega)
  intro p x hp
  cases p with
  | zero =>
    obtain rfl := Option.some.inj hp
    exact ⟨gn, n, by rw [Nat.add_zero, List.getElem?_set_self (by omega)], s.nw, hl⟩
  | succ p =>
    obtain ⟨gw, c, hv, hb, hl⟩ := h.row p x hp
    refine ⟨gw, c, by rw [List.getElem?_set_ne (by omega), show at_ + (p + 1) = at_ + 1 + p from by omega]; exact hv, ?_, hl⟩
    exact (s.keep.2 gw (blk_lt hb) (blk_ne hb h.rblk (by decide)) (by simp)).trans hb
theorem TB.start (h : TB wB w0 g gr Af Ae Al cf ce cl cr n f es rs xs back a1 vals rows) {w1 w2 : World} {j : Nat} {v : Value} (hg : gn = w0.heap.size) (hr : BB w1 gn r) (hb : Below w0.heap.size w0 w1) (hw : w2 = w1.setCell ⟨gr, j, none⟩ v) (hv : v = .slice (some ⟨gn, 0, none⟩) n n) : FS wB w0 w2 gr gn j n vals r := by
  subst hw
  subst hv
  obtain ⟨s1, s2, s3, s4⟩ := h.sizes
  refine ⟨(KeepBut.of_below hb gr none).set_ j _, ?_, (below_step h.bel hb).setCell h.rB _, blk_far (p := ⟨gr, j, none⟩) hr (by show gn ≠ gr; omega) _, by omega⟩
  exact blk_put (blk_below h.rblk hb) j _ (by simp)
end
/-- A row told moment by moment. -/
def mkr (F : Int → Bool) (n : Nat) : List Bool := (List.range n).map fun (i : Nat) => F (i : Int)
theorem mkr_len (F : Int → Bool) (n : Nat) : (mkr F n).length = n := by simp [mkr]
theorem mkr_succ (F : Int → Bool) (n : Nat) : mkr F (n + 1) = mkr F n ++ [F (n : Int)] := by simp [mkr, List.range_succ]
theorem mkr_set (F : Int → Bool) {j n : Nat} (hj : j < n) : (mkr F j ++ List.replicate (n - j) false).set j (F (j : Int)) = mkr F (j + 1) ++ List.replicate (n - (j + 1)) false := by
  obtain ⟨m, rfl⟩ : ∃ m, n = j + 1 + m := ⟨n - (j + 1), by omega⟩
  rw [show j + 1 + m - j = m + 1 from by omega, show j + 1 + m - (j + 1) = m from by omega, List.replicate_succ, List.set_append, if_neg (by rw [mkr_len]; omega), mkr_len, Nat.sub_self, List.set_cons_zero, mkr_succ, List.append_assoc]
  rfl
theorem mkr_false {j n : Nat} (h : j ≤ n) : mkr (fun _ => false) j ++ List.replicate (n - j) false = List.replicate n false := by
  have e : mkr (fun _ => false) j = List.replicate j false := by simp [mkr, List.map_const']
  rw [e, List.replicate_append_replicate, show j + (n - j) = n from by omega]
/-- The row of an op of so many parts. -/
def row0 (xs : List (List Bool)) (n : Nat) (kd val : Int) : Option (List Bool) :=
  if kd = 13 then (if 0 ≤ val ∧ ∀ i, i < n → val < ((xs.getD i []).length : Int) then some (mkr (fun i => rdOf false (xs.getD i.toNat []) val) n) else none)
  else if kd = 11 then some (mkr (fun _ => true) n) else if kd = 12 then some (mkr (fun _ => false) n) else none
def row1 (n : Nat) (back : Int) (a : List Bool) (k : Nat) (kd : Int) : Option (List Bool) :=
  if kd = 17 then stl (fun i l => rdOf false a i || l) n back k (List.replicate n false)
  else if kd = 18 then stl (fun i l => rdOf false a i && l) n back k (List.replicate n true)
  else if kd = 10 then some (mkr (fun i => !(rdOf false a i)) n) else if kd = 14 then some (mkr (fun i => rdOf false a (nxt n back i)) n) else none
def row2 (n : Nat) (back : Int) (a b : List Bool) (k : Nat) (kd : Int) : Option (List Bool) :=
  if kd = 15 then stl (fun i l => rdOf false b i || rdOf false a i && l) n back k (List.replicate n false)
  else if kd = 16 then stl (fun i l => rdOf false b i && (rdOf false a i || l)) n back k (List.replicate n true)
  else if kd = 8 then some (mkr (fun i => rdOf false a i && rdOf false b i) n) else if kd = 9 then some (mkr (fun i => rdOf false a i || rdOf false b i) n) else none

end Go.Proofs.YtcoaeefmmnohkaaDoor.P
end
