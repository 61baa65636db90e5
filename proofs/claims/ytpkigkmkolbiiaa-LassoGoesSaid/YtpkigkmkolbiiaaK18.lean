-- PACKED by pack.py of this repo: QFair
import Derived.Test.YtpkigkmkolbiiaaK17
import Derived.Test.YtpkigkmkolbiiaaK8
import Derived.Test.YtpkigkmkolbiiaaK13
section
namespace Go.Proofs.Ytpkigkmkolbiiaa.Q
open Go.RowKit Go.Proofs.YtpkigkmkolbiiaaW.PrintWords Go.Proofs.YtpkigkmkolbiiaaW.PrintMore Go.Proofs.Ytpkigkmkolbiiaa.P
set_option linter.unusedVariables false
set_option maxRecDepth 100000 in
theorem or_nat (a b : Nat) (ha : a < 64) (hb : b < 64) : Go.bits .or .i64 (a : Int) (b : Int) = ((a ||| b : Nat) : Int) := by
  have h : ∀ x : Fin 64, ∀ y : Fin 64, Go.bits .or .i64 ((x.val : Nat) : Int) ((y.val : Nat) : Int) = ((x.val ||| y.val : Nat) : Int) := by decide +kernel
  exact h ⟨a, ha⟩ ⟨b, hb⟩
def bitOf (ms : List Int) (u : Int) (b : Nat) : Prop := ((rd ms u).toNat).testBit b = true
theorem shl_pow {y : Int} (h0 : 0 ≤ y) (h1 : y ≤ 6) : shl .i64 1 y = ((2 ^ y.toNat : Nat) : Int) := by
  have h : y = 0 ∨ y = 1 ∨ y = 2 ∨ y = 3 ∨ y = 4 ∨ y = 5 ∨ y = 6 := by omega
  rcases h with rfl | rfl | rfl | rfl | rfl | rfl | rfl <;> decide
theorem pow_le {m : Nat} (h : m ≤ 6) : 2 ^ m ≤ 64 := by
  have h : m = 0 ∨ m = 1 ∨ m = 2 ∨ m = 3 ∨ m = 4 ∨ m = 5 ∨ m = 6 := by omega
  rcases h with rfl | rfl | rfl | rfl | rfl | rfl | rfl <;> decide
theorem all_bits {N m : Nat} (h : N < 2 ^ m) : N = 2 ^ m - 1 ↔ ∀ b, b < m → N.testBit b = true := by
  constructor
  · rintro rfl b hb
    rw [Nat.testBit_two_pow_sub_one]
    exact decide_eq_true hb
  · intro hh
    apply Nat.eq_of_testBit_eq
    intro b
    rw [Nat.testBit_two_pow_sub_one]
    by_cases c : b < m
    · rw [hh b c, decide_eq_true c]
    · rw [decide_eq_false c]
      exact Nat.testBit_lt_two_pow (Nat.lt_of_lt_of_le h (Nat.pow_le_pow_right (by decide) (by omega)))
theorem or_lt {a b m : Nat} (ha : a < 2 ^ m) (hb : b < 2 ^ m) : a ||| b < 2 ^ m := Nat.or_lt_two_pow ha hb
structure FairAt (n : Nat) (nx : List (List Int)) (ms : List Int) (many : Int) (part : List Int) (i : Int) : Prop where
  own : rd part i = i
  loop : ∃ u, (0 ≤ u ∧ u < (n : Int)) ∧ rd part u = i ∧ ∃ k ∈ rd_L1 nx u, rd part k = i
  sets : ∀ b : Nat, (b : Int) < many → ∃ u, (0 ≤ u ∧ u < (n : Int)) ∧ rd part u = i ∧ bitOf ms u b
theorem rdb_set {l : List Bool} {i j : Int} {x : Bool} (h0 : 0 ≤ i) (h1 : i < l.length) (hj : 0 ≤ j) : rdOf false (l.set i.toNat x) j = if j = i then x else rdOf false l j := by
  unfold rdOf
  rw [List.getD_eq_getElem?_getD, List.getD_eq_getElem?_getD, List.getElem?_set]
  by_cases c : j = i
  · subst c
    rw [if_pos rfl, if_pos rfl, if_pos (by omega)]
    rfl
  · rw [if_neg (by omega), if_neg c]
theorem rdb_rep (n : Nat) (x : Bool) (v : Int) (v0 : 0 ≤ v) (v1 : v < n) : rdOf false (List.replicate n x) v = x := by
  have hv : v.toNat < (List.replicate n x).length := by rw [List.length_replicate]; omega
  unfold rdOf
  rw [List.getD_eq_getElem?_getD, List.getElem?_eq_getElem hv]
  simp
section
variable {n : Nat} {sp : List S45} {f : Int} {nx : List (List Int)} {ms : List Int} {many : Int} {part : List Int}
def LoopIs (n : Nat) (nx : List (List Int)) (part : List Int) (i q : Nat) (lp : List Bool) : Prop :=
  lp.length = n ∧ ∀ p : Int, 0 ≤ p → p < n → (rdOf false lp p = true ↔ (∃ u : Int, 0 ≤ u ∧ u < (i : Int) ∧ rd part u = p ∧ ∃ k ∈ rd_L1 nx u, rd part k = p) ∨ (rd part (i : Int) = p ∧ ∃ k ∈ (rd_L1 nx (i : Int)).take q, rd part k = p))
def SetsIs (n : Nat) (ms part : List Int) (many : Int) (i : Nat) (st : List Int) : Prop :=
  st.length = n ∧ ∀ p : Int, 0 ≤ p → p < n → ∃ N : Nat, rd st p = (N : Int) ∧ N < 2 ^ many.toNat ∧ ∀ b, N.testBit b = true ↔ ∃ u : Int, 0 ≤ u ∧ u < (i : Int) ∧ rd part u = p ∧ bitOf ms u b
theorem fair_is (g : Gs n sp f nx ms many) (T : Pt n nx part) : ∃ out, Ev (fun k => scc_fair.f k sp f nx ms many part) out ∧ out.length = n ∧ ∀ i : Int, 0 ≤ i → i < n → (rdOf false out i = true ↔ FairAt n nx ms many part i) := by
  have hn := g.gr.le
  have hnl := g.gr.len
  have hsp := g.sp
  have hml := g.ml
  have hpl := T.len
  have hm0 := g.m0
  have hm1 := g.m1
  have hpw := shl_pow hm0 hm1
  have hp64 := pow_le (m := many.toNat) (by omega)
  have hpos : 0 < 2 ^ many.toNat := Nat.pow_pos (by decide)
  have hend : ∀ (lp : List Bool) (st : List Int), LoopIs n nx part n 0 lp → SetsIs n ms part many n st → ∀ (d i : Nat) (out : List Bool), i + d = n → out.length = n → (∀ j : Int, 0 ≤ j → j < (i : Int) → (rdOf false out j = true ↔ FairAt n nx ms many part j)) →
      ∃ out', Ev (fun k => scc_fair.l2 k part lp st out (n : Int) (i : Int) sp f nx ms many) out' ∧ out'.length = n ∧ ∀ i : Int, 0 ≤ i → i < n → (rdOf false out' i = true ↔ FairAt n nx ms many part i) := by
    intro lp st ⟨hll, hlp⟩ ⟨hsl, hst⟩ d
    induction d with
    | zero =>
      intro i out hi ho hj
      refine ⟨out, Ev.step (f := fun _ => some out) (fun k => ?_) (Ev.now _), ho, fun j j0 j1 => hj j j0 (by omega)⟩
      simp only [scc_fair.l2]
      rw [if_neg (by omega)]
    | succ d ih =>
      intro i out hi ho hj
      have hput : ∀ v : Bool, (v = true ↔ FairAt n nx ms many part (i : Int)) → ∃ out', Ev (fun k => scc_fair.l2 k part lp st (out.set (i : Int).toNat v) (n : Int) ((i + 1 : Nat) : Int) sp f nx ms many) out' ∧ out'.length = n ∧ ∀ i : Int, 0 ≤ i → i < n → (rdOf false out' i = true ↔ FairAt n nx ms many part i) := by
        intro v hv
        refine ih (i + 1) _ (by omega) (by rw [List.length_set]; exact ho) (fun j j0 j1 => ?_)
        rw [rdb_set (by omega) (by omega) j0]
        by_cases c : j = (i : Int)
        · rw [if_pos c, c]
          exact hv
        · rw [if_neg c]
          exact hj j j0 (by omega)
      obtain ⟨N, hN, hNl, hNb⟩ := hst (i : Int) (by omega) (by omega)
      have hL := hlp (i : Int) (by omega) (by omega)
      by_cases c1 : rd part (i : Int) = (i : Int)
      · by_cases c2 : rdOf false lp (i : Int) = true
        · have hv : ((rd st (i : Int)) == (wrap64 ((shl .i64 1 many) - 1))) = true ↔ FairAt n nx ms many part (i : Int) := by
            rw [hN, hpw, w64 (by omega) (by omega), beq_iff_eq]
            have e : ((N : Int) = ((2 ^ many.toNat : Nat) : Int) - 1) ↔ N = 2 ^ many.toNat - 1 := by omega
            rw [e, all_bits hNl]
            constructor
            · intro hh
              refine ⟨c1, ?_, fun b hb => ?_⟩
              · rcases hL.1 c2 with ⟨u, h0, h1, h2, h3⟩ | ⟨_, k, hk, _⟩
                · exact ⟨u, ⟨h0, h1⟩, h2, h3⟩
                · rw [List.take_zero] at hk
                  exact absurd hk (by simp)
              · obtain ⟨u, h0, h1, h2, h3⟩ := (hNb b).1 (hh b (by omega))
                exact ⟨u, ⟨h0, h1⟩, h2, h3⟩
            · rintro ⟨_, _, h⟩ b hb
              obtain ⟨u, ⟨h0, h1⟩, h2, h3⟩ := h b (by omega)
              exact (hNb b).2 ⟨u, h0, h1, h2, h3⟩
          obtain ⟨out', h1, h2⟩ := hput _ hv
          refine ⟨out', Ev.step (fun k => ?_) h1, h2⟩
          simp only [scc_fair.l2]
          rw [if_pos (by omega), if_pos (by omega), if_pos (by omega), if_pos c1, if_pos (by omega), if_pos c2, if_pos (by omega), if_pos hm0, if_pos (by omega), w64 (n := (i : Int) + 1) (by omega) (by omega)]
          rfl
        · have hv : false = true ↔ FairAt n nx ms many part (i : Int) := by
            refine ⟨fun h => absurd h (by simp), fun h => ?_⟩
            obtain ⟨u, ⟨h0, h1⟩, h2, h3⟩ := h.loop
            exact absurd (hL.2 (.inl ⟨u, h0, h1, h2, h3⟩)) c2
          obtain ⟨out', h1, h2⟩ := hput _ hv
          refine ⟨out', Ev.step (fun k => ?_) h1, h2⟩
          simp only [scc_fair.l2]
          rw [if_pos (by omega), if_pos (by omega), if_pos (by omega), if_pos c1, if_pos (by omega), if_neg c2, if_pos (by omega), w64 (n := (i : Int) + 1) (by omega) (by omega)]
          rfl
      · have hv : false = true ↔ FairAt n nx ms many part (i : Int) := ⟨fun h => absurd h (by simp), fun h => absurd h.own c1⟩
        obtain ⟨out', h1, h2⟩ := hput _ hv
        refine ⟨out', Ev.step (fun k => ?_) h1, h2⟩
        simp only [scc_fair.l2]
        rw [if_pos (by omega), if_pos (by omega), if_pos (by omega), if_neg c1, if_pos (by omega), w64 (n := (i : Int) + 1) (by omega) (by omega)]
        rfl
  have hmain : ∀ (d i : Nat) (lp : List Bool) (st : List Int), i + d = n → LoopIs n nx part i 0 lp → SetsIs n ms part many i st →
      ∃ out', Ev (fun k => scc_fair.l0 k part (n : Int) lp st nx (n : Int) (i : Int) sp f nx ms many) out' ∧ out'.length = n ∧ ∀ i : Int, 0 ≤ i → i < n → (rdOf false out' i = true ↔ FairAt n nx ms many part i) := by
    intro d
    induction d with
    | zero =>
      intro i lp st hi h1 h2
      obtain rfl : i = n := by omega
      obtain ⟨out', e1, e2⟩ := hend lp st h1 h2 i 0 (List.replicate i false) (by omega) List.length_replicate (fun j j0 j1 => by omega)
      refine ⟨out', Ev.step (f := fun k => scc_fair.l2 k part lp st (List.replicate i false) (i : Int) ((0 : Nat) : Int) sp f nx ms many) (fun k => ?_) e1, e2⟩
      simp only [scc_fair.l0, Int.toNat_natCast]
      rw [if_neg (by omega), if_pos (by omega), if_pos (by omega), Option.bind_some, List.length_replicate]
      rfl
    | succ d ih =>
      intro i lp st hi h1 h2
      have hpi0 := T.lo (i : Int) (by omega) (by omega)
      have hpi1 := T.hi (i : Int) (by omega) (by omega)
      have hmr := g.mr (i : Int) (by omega) (by omega)
      have hl2 := g.gr.len2 (i : Int)
      have hok := g.gr.ok (i : Int) (by omega) (by omega)
      have hin : ∀ (e q : Nat) (lp : List Bool) (st : List Int), q + e = (rd_L1 nx (i : Int)).length → LoopIs n nx part i q lp → SetsIs n ms part many (i + 1) st →
          ∃ out', Ev (fun k => scc_fair.l1 k part (n : Int) lp st (i : Int) nx (n : Int) (i : Int) (rd_L1 nx (i : Int)) ((rd_L1 nx (i : Int)).length : Int) (q : Int) sp f nx ms many) out' ∧ out'.length = n ∧ ∀ i : Int, 0 ≤ i → i < n → (rdOf false out' i = true ↔ FairAt n nx ms many part i) := by
        intro e
        induction e with
        | zero =>
          intro q lp st hq h1 h2
          have h1' : LoopIs n nx part (i + 1) 0 lp := by
            refine ⟨h1.1, fun p p0 p1 => ?_⟩
            rw [h1.2 p p0 p1, show q = (rd_L1 nx (i : Int)).length by omega, List.take_length, List.take_zero]
            constructor
            · rintro (⟨u, a, b, c⟩ | ⟨a, b⟩)
              · exact .inl ⟨u, a, by omega, c⟩
              · exact .inl ⟨(i : Int), by omega, by omega, a, b⟩
            · rintro (⟨u, a, b, c⟩ | ⟨_, k, hk, _⟩)
              · by_cases hu : u = (i : Int)
                · rw [hu] at c
                  exact .inr c
                · exact .inl ⟨u, a, by omega, c⟩
              · exact absurd hk (by simp)
          obtain ⟨out', e1, e2⟩ := ih (i + 1) lp st (by omega) h1' h2
          refine ⟨out', Ev.step (fun k => ?_) e1, e2⟩
          simp only [scc_fair.l1]
          rw [if_neg (by omega), w64 (n := (i : Int) + 1) (by omega) (by omega)]
          rfl
        | succ e ihe =>
          intro q lp st hq h1 h2
          have hql : q < (rd_L1 nx (i : Int)).length := by omega
          have hrq : rd (rd_L1 nx (i : Int)) (q : Int) = (rd_L1 nx (i : Int))[q] := rd_eq hql
          obtain ⟨b0, b1⟩ := hok _ (List.getElem_mem hql)
          have htk : (rd_L1 nx (i : Int)).take (q + 1) = (rd_L1 nx (i : Int)).take q ++ [(rd_L1 nx (i : Int))[q]] := List.take_succ_eq_append_getElem hql
          generalize (rd_L1 nx (i : Int))[q] = b at hrq b0 b1 htk
          have hpb0 := T.lo b b0 b1
          have hpb1 := T.hi b b0 b1
          have hll := h1.1
          by_cases c : rd part b = rd part (i : Int)
          · have h1' : LoopIs n nx part i (q + 1) (lp.set (rd part (i : Int)).toNat true) := by
              refine ⟨by rw [List.length_set]; exact h1.1, fun p p0 p1 => ?_⟩
              rw [rdb_set hpi0 (by omega) p0, htk]
              by_cases cp : p = rd part (i : Int)
              · rw [if_pos cp]
                exact ⟨fun _ => .inr ⟨cp.symm, b, by simp, by rw [c, cp]⟩, fun _ => rfl⟩
              · rw [if_neg cp, h1.2 p p0 p1]
                constructor
                · rintro (h | ⟨a, _⟩)
                  · exact .inl h
                  · exact absurd a.symm cp
                · rintro (h | ⟨a, _⟩)
                  · exact .inl h
                  · exact absurd a.symm cp
            obtain ⟨out', e1, e2⟩ := ihe (q + 1) _ st (by omega) h1' h2
            refine ⟨out', Ev.step (fun k => ?_) e1, e2⟩
            simp only [scc_fair.l1, hrq]
            rw [if_pos (by omega), if_pos (by omega), if_pos (by omega), if_pos b0, if_pos (by omega), if_pos (by omega), if_pos (by omega), if_pos c, if_pos hpi0, if_pos (by omega), w64 (n := (q : Int) + 1) (by omega) (by omega)]
            rfl
          · have h1' : LoopIs n nx part i (q + 1) lp := by
              refine ⟨h1.1, fun p p0 p1 => ?_⟩
              rw [h1.2 p p0 p1, htk]
              constructor
              · rintro (h | ⟨a, k, hk, h⟩)
                · exact .inl h
                · exact .inr ⟨a, k, List.mem_append_left _ hk, h⟩
              · rintro (h | ⟨a, k, hk, h⟩)
                · exact .inl h
                · rcases List.mem_append.1 hk with hk | hk
                  · exact .inr ⟨a, k, hk, h⟩
                  · obtain rfl := List.mem_singleton.1 hk
                    exact absurd (h.trans a.symm) c
            obtain ⟨out', e1, e2⟩ := ihe (q + 1) _ st (by omega) h1' h2
            refine ⟨out', Ev.step (fun k => ?_) e1, e2⟩
            simp only [scc_fair.l1, hrq]
            rw [if_pos (by omega), if_pos (by omega), if_pos (by omega), if_pos b0, if_pos (by omega), if_pos (by omega), if_pos (by omega), if_neg c, w64 (n := (q : Int) + 1) (by omega) (by omega)]
            rfl
      have hsl := h2.1
      have h2' : SetsIs n ms part many (i + 1) (st.set (rd part (i : Int)).toNat (Go.bits .or .i64 (rd st (rd part (i : Int))) (rd ms (i : Int)))) := by
        refine ⟨by rw [List.length_set]; exact hsl, fun p p0 p1 => ?_⟩
        obtain ⟨N, hN, hNl, hNb⟩ := h2.2 p p0 p1
        rw [rd_set hpi0 (by omega) p0]
        by_cases cp : p = rd part (i : Int)
        · subst cp
          rw [if_pos rfl]
          have em : rd ms (i : Int) = (((rd ms (i : Int)).toNat : Nat) : Int) := by omega
          have eml : (rd ms (i : Int)).toNat < 2 ^ many.toNat := by omega
          refine ⟨N ||| (rd ms (i : Int)).toNat, by rw [hN, em, or_nat _ _ (by omega) (by omega), ← em], or_lt hNl eml, fun b => ?_⟩
          rw [Nat.testBit_or, Bool.or_eq_true, hNb b]
          constructor
          · rintro (⟨u, a, b', c⟩ | h)
            · exact ⟨u, a, by omega, c⟩
            · exact ⟨(i : Int), by omega, by omega, rfl, h⟩
          · rintro ⟨u, a, b', c, h⟩
            by_cases hu : u = (i : Int)
            · rw [hu] at h
              exact .inr h
            · exact .inl ⟨u, a, by omega, c, h⟩
        · rw [if_neg cp]
          refine ⟨N, hN, hNl, fun b => ?_⟩
          rw [hNb b]
          constructor
          · rintro ⟨u, a, b', c⟩
            exact ⟨u, a, by omega, c⟩
          · rintro ⟨u, a, b', c, h⟩
            refine ⟨u, a, ?_, c, h⟩
            have hu : u ≠ (i : Int) := fun e => cp (by rw [← c, e])
            omega
      obtain ⟨out', e1, e2⟩ := hin (rd_L1 nx (i : Int)).length 0 lp _ (by omega) h1 h2'
      refine ⟨out', Ev.step (fun k => ?_) e1, e2⟩
      simp only [scc_fair.l0]
      rw [if_pos (by omega), if_pos (by omega), if_pos (by omega), if_pos (by omega), if_pos hpi0, if_pos (by omega), if_pos (by omega)]
      rfl
  have hA : LoopIs n nx part 0 0 (List.replicate n false) := by
    refine ⟨List.length_replicate, fun p p0 p1 => ?_⟩
    rw [rdb_rep n false p p0 p1]
    refine ⟨fun h => absurd h (by simp), ?_⟩
    rintro (⟨u, a, b, _⟩ | ⟨_, k, hk, _⟩)
    · omega
    · rw [List.take_zero] at hk
      exact absurd hk (by simp)
  have hB : SetsIs n ms part many 0 (List.replicate n 0) := by
    refine ⟨List.length_replicate, fun p p0 p1 => ⟨0, rd_rep n 0 p p0 p1, hpos, fun b => ?_⟩⟩
    rw [Nat.zero_testBit]
    refine ⟨fun h => absurd h (by simp), ?_⟩
    rintro ⟨u, a, b, _⟩
    omega
  obtain ⟨out, e1, e2⟩ := hmain n 0 (List.replicate n false) (List.replicate n 0) (by omega) hA hB
  refine ⟨out, Ev.congr (fun k => ?_) e1, e2⟩
  unfold scc_fair.f
  rw [hsp, hnl, Int.toNat_natCast, if_pos (by omega), if_pos (by omega), if_pos (by omega)]
  rfl
def Seen (nx : List (List Int)) (f : Int) (i : Int) : Prop := ∃ s, (0 ≤ s ∧ s < f) ∧ Rch nx s i
theorem Fair_is (g : Gs n sp f nx ms many) (T : Pt n nx part) (hp : Ev (fun k => scc_Parts.f k sp f nx ms many) (part, 0)) :
    (∃ i : Int, Ev (fun k => scc_Fair.f k sp f nx ms many) (i, 0) ∧ 0 ≤ i ∧ i < n ∧ FairAt n nx ms many part i ∧ Seen nx f i ∧ ∀ j : Int, 0 ≤ j → j < i → ¬ (FairAt n nx ms many part j ∧ Seen nx f j)) ∨
    (Ev (fun k => scc_Fair.f k sp f nx ms many) (0, 11) ∧ ∀ j : Int, 0 ≤ j → j < n → ¬ (FairAt n nx ms many part j ∧ Seen nx f j)) := by
  have hn := g.gr.le
  obtain ⟨out, e1, e2, e3⟩ := fair_is g T
  obtain ⟨L, r1, r2, r3⟩ := reached_is g
  have hl : ∀ (d i : Nat), i + d = n → (∀ j : Int, 0 ≤ j → j < (i : Int) → ¬ (FairAt n nx ms many part j ∧ Seen nx f j)) →
      (∃ i' : Int, Ev (fun k => scc_Fair.l0 k L out (out.length : Int) (i : Int)) (i', 0) ∧ 0 ≤ i' ∧ i' < n ∧ FairAt n nx ms many part i' ∧ Seen nx f i' ∧ ∀ j : Int, 0 ≤ j → j < i' → ¬ (FairAt n nx ms many part j ∧ Seen nx f j)) ∨
      (Ev (fun k => scc_Fair.l0 k L out (out.length : Int) (i : Int)) (0, 11) ∧ ∀ j : Int, 0 ≤ j → j < n → ¬ (FairAt n nx ms many part j ∧ Seen nx f j)) := by
    intro d
    induction d with
    | zero =>
      intro i hi hj
      refine .inr ⟨Ev.step (f := fun _ => some (0, 11)) (fun k => ?_) (Ev.now _), fun j j0 j1 => hj j j0 (by omega)⟩
      simp only [scc_Fair.l0]
      rw [if_neg (by omega)]
    | succ d ih =>
      intro i hi hj
      have h1 := e3 (i : Int) (by omega) (by omega)
      have h2 := r3 (i : Int) (by omega) (by omega)
      have hgo : ¬ (FairAt n nx ms many part (i : Int) ∧ Seen nx f (i : Int)) → (∀ k, scc_Fair.l0 (k + 1) L out (out.length : Int) (i : Int) = scc_Fair.l0 k L out (out.length : Int) ((i + 1 : Nat) : Int)) →
          (∃ i' : Int, Ev (fun k => scc_Fair.l0 k L out (out.length : Int) (i : Int)) (i', 0) ∧ 0 ≤ i' ∧ i' < n ∧ FairAt n nx ms many part i' ∧ Seen nx f i' ∧ ∀ j : Int, 0 ≤ j → j < i' → ¬ (FairAt n nx ms many part j ∧ Seen nx f j)) ∨
          (Ev (fun k => scc_Fair.l0 k L out (out.length : Int) (i : Int)) (0, 11) ∧ ∀ j : Int, 0 ≤ j → j < n → ¬ (FairAt n nx ms many part j ∧ Seen nx f j)) := by
        intro hno hst
        rcases ih (i + 1) (by omega) (fun j j0 j1 => by
          by_cases c : j = (i : Int)
          · rw [c]; exact hno
          · exact hj j j0 (by omega)) with ⟨i', a, b⟩ | ⟨a, b⟩
        · exact .inl ⟨i', Ev.step hst a, b⟩
        · exact .inr ⟨Ev.step hst a, b⟩
      by_cases c1 : rdOf false out (i : Int) = true
      · by_cases c2 : rdOf false L (i : Int) = true
        · refine .inl ⟨(i : Int), Ev.step (f := fun _ => some ((i : Int), 0)) (fun k => ?_) (Ev.now _), by omega, by omega, h1.1 c1, h2.1 c2, hj⟩
          simp only [scc_Fair.l0]
          rw [if_pos (by omega), if_pos (by omega), if_pos (by omega), if_pos c1, if_pos (by omega), if_pos c2]
        · refine hgo (fun h => c2 (h2.2 h.2)) (fun k => ?_)
          simp only [scc_Fair.l0]
          rw [if_pos (by omega), if_pos (by omega), if_pos (by omega), if_pos c1, if_pos (by omega), if_neg c2, w64 (n := (i : Int) + 1) (by omega) (by omega)]
          rfl
      · refine hgo (fun h => c1 (h1.2 h.1)) (fun k => ?_)
        simp only [scc_Fair.l0]
        rw [if_pos (by omega), if_pos (by omega), if_pos (by omega), if_neg c1, w64 (n := (i : Int) + 1) (by omega) (by omega)]
        rfl
  have hev : ∀ r, Ev (fun k => scc_Fair.l0 k L out (out.length : Int) ((0 : Nat) : Int)) r → Ev (fun k => scc_Fair.f k sp f nx ms many) r := by
    intro r hr
    unfold scc_Fair.f
    refine Ev.bind hp ?_
    simp only [if_true]
    exact Ev.bind r1 (Ev.bind e1 hr)
  rcases hl n 0 (by omega) (fun j j0 j1 => by omega) with ⟨i, a, b⟩ | ⟨a, b⟩
  · exact .inl ⟨i, hev _ a, b⟩
  · exact .inr ⟨hev _ a, b⟩
structure GF (n : Nat) (nx : List (List Int)) (f : Int) (ms : List Int) (many : Int) (i : Int) : Prop where
  r0 : 0 ≤ i
  r1 : i < n
  seen : Seen nx f i
  loop : ∃ k ∈ rd_L1 nx i, Rch nx k i
  sets : ∀ b : Nat, (b : Int) < many → ∃ u, Rch nx i u ∧ Rch nx u i ∧ bitOf ms u b
theorem rch_loop (g : Gr n nx) {i u k : Int} (i0 : 0 ≤ i) (i1 : i < n) (h1 : Rch nx i u) (hk : k ∈ rd_L1 nx u) (h2 : Rch nx k i) : ∃ k ∈ rd_L1 nx i, Rch nx k i := by
  have hall : ∀ a b, Rch nx a b → ∀ k, k ∈ rd_L1 nx b → Rch nx k a → ∃ c ∈ rd_L1 nx a, Rch nx c a := by
    intro a b h
    induction h with
    | refl => intro k hk h2; exact ⟨k, hk, h2⟩
    | tail hb hc ih => intro k hk h2; exact ih _ hc (((Rch.refl _).tail hk).trans h2)
  exact hall i u h1 k hk h2
theorem GF.of (g : Gs n sp f nx ms many) (T : Pt n nx part) {i : Int} (i0 : 0 ≤ i) (i1 : i < n) (h : FairAt n nx ms many part i) (hs : Seen nx f i) : GF n nx f ms many i := by
  have hin : ∀ u : Int, 0 ≤ u → u < n → rd part u = i → Rch nx i u ∧ Rch nx u i := fun u u0 u1 e => (T.iff i u i0 i1 u0 u1).1 (by rw [h.own, e])
  refine ⟨i0, i1, hs, ?_, fun b hb => ?_⟩
  · obtain ⟨u, ⟨u0, u1⟩, hu, k, hk, hp⟩ := h.loop
    have hkr := g.gr.ok u u0 u1 k hk
    exact rch_loop g.gr i0 i1 (hin u u0 u1 hu).1 hk (hin k hkr.1 hkr.2 hp).2
  · obtain ⟨u, ⟨u0, u1⟩, hu, hb⟩ := h.sets b hb
    exact ⟨u, (hin u u0 u1 hu).1, (hin u u0 u1 hu).2, hb⟩
theorem GF.fair (g : Gs n sp f nx ms many) (T : Pt n nx part) {i : Int} (h : GF n nx f ms many i) : FairAt n nx ms many part (rd part i) ∧ Seen nx f (rd part i) := by
  have p0 := T.lo i h.r0 h.r1
  have p1 : rd part i < n := Int.lt_of_le_of_lt (T.hi i h.r0 h.r1) h.r1
  have hm := (T.iff (rd part i) i p0 p1 h.r0 h.r1).1 (T.id_ i h.r0 h.r1)
  have hin : ∀ u : Int, Rch nx i u → Rch nx u i → (0 ≤ u ∧ u < (n : Int)) ∧ rd part u = rd part i := fun u a b => by
    have hr := a.rng g.gr h.r0 h.r1
    exact ⟨hr, (T.iff u i hr.1 hr.2 h.r0 h.r1).2 ⟨b, a⟩⟩
  refine ⟨⟨T.id_ i h.r0 h.r1, ?_, fun b hb => ?_⟩, ?_⟩
  · obtain ⟨k, hk, hr⟩ := h.loop
    exact ⟨i, ⟨h.r0, h.r1⟩, rfl, k, hk, (hin k ((Rch.refl _).tail hk) hr).2⟩
  · obtain ⟨u, a, b', c⟩ := h.sets b hb
    exact ⟨u, (hin u a b').1, (hin u a b').2, c⟩
  · obtain ⟨s, hs, hr⟩ := h.seen
    exact ⟨s, hs, hr.trans hm.2⟩
end
end Go.Proofs.Ytpkigkmkolbiiaa.Q
end
