-- PACKED by pack.py of this repo: QSpell QJoin QSem
import Derived.Test.YtcoaeefmmnohkaaDoorM14
import Derived.Test.YtcoaeefmmnohkaaDoorM15
import Derived.Test.YtcoaeefmmnohkaaDoorM13
import Derived.Test.YtcoaeefmmnohkaaDoorM6
import Derived.Test.YtcoaeefmmnohkaaDoorM7
import Derived.Test.YtcoaeefmmnohkaaDoorM8
section
namespace Go.Proofs.YtcoaeefmmnohkaaDoor.Q
open Go.RowKit Go.Proofs.YtcoaeefmmnohkaaDoorW.PrintWords Go.Proofs.YtcoaeefmmnohkaaDoorW.PrintMore Go.Proofs.YtcoaeefmmnohkaaDoor.P
set_option linter.unusedVariables false
theorem letter_is {n : Int} (h : (Lit.int .i64 n).wf = true) : ∃ l, foretellkeep_letter.f n = some l ∧ l.length = 3 := by
  unfold foretellkeep_letter.f
  rw [picked_is h (by decide), Option.bind_some]
  exact ⟨_, rfl, rfl⟩
def intsWf (l : List Int) : Prop := ∀ y ∈ l, (Lit.int .i64 y).wf = true
theorem rd_wf {l : List Int} (h : intsWf l) (i : Nat) (hi : i < l.length) : (Lit.int .i64 (rd l (i : Int))).wf = true := by
  rw [rd_eq hi]
  exact h _ (List.getElem_mem _)
theorem word_is {a b : List Int} (ha : intsWf a) (hb : intsWf b) : ∃ stem loop : List (List Bool), stem.length ≤ 5 ∧ 1 ≤ loop.length ∧ loop.length ≤ 5 ∧ (∀ x ∈ stem ++ loop, x.length = 3) ∧ Ev (fun k => foretellkeep_Word.f k a b) (stem, loop) := by
  have h1 : ∀ (d i : Nat) (stem acc : List (List Bool)), i + d = 5 → acc.length ≤ i → (∀ x ∈ stem, x.length = 3) → (∀ x ∈ acc, x.length = 3) → (i = 0 ∨ acc.length = i) → ∃ loop : List (List Bool), 1 ≤ loop.length ∧ loop.length ≤ 5 ∧ (∀ x ∈ loop, x.length = 3) ∧ Ev (fun k => foretellkeep_Word.l1 k (i : Int) a b stem acc) (stem, loop) := by
    have hend : ∀ (acc : List (List Bool)), acc.length ≤ 5 → (∀ x ∈ acc, x.length = 3) → ∀ stem : List (List Bool), ∃ loop : List (List Bool), 1 ≤ loop.length ∧ loop.length ≤ 5 ∧ (∀ x ∈ loop, x.length = 3) ∧ (if (acc.length : Int) = 0 then (foretellkeep_letter.f 5).bind fun t => some (stem, [t]) else some (stem, acc)) = some (stem, loop) := by
      intro acc h5 hx stem
      by_cases c : (acc.length : Int) = 0
      · obtain ⟨l, hl, h3⟩ := letter_is (n := 5) (by decide)
        rw [if_pos c, hl]
        exact ⟨[l], by simp, by simp, fun x hx => by rw [List.mem_singleton.mp hx]; exact h3, rfl⟩
      · rw [if_neg c]
        exact ⟨acc, by omega, h5, hx, rfl⟩
    intro d
    induction d with
    | zero =>
      intro i stem acc hi hl hs hx hii
      obtain ⟨loop, l1, l2, l3, l4⟩ := hend acc (by omega) hx stem
      refine ⟨loop, l1, l2, l3, Ev.step (f := fun _ => some (stem, loop)) (fun k => ?_) (Ev.now _)⟩
      simp only [foretellkeep_Word.l1]
      by_cases c : (i : Int) < (b.length : Int)
      · rw [if_pos c, if_neg (by omega)]; exact l4
      · rw [if_neg c]; exact l4
    | succ d ih =>
      intro i stem acc hi hl hs hx hii
      by_cases c : (i : Int) < (b.length : Int)
      · obtain ⟨l, hl', h3⟩ := letter_is (rd_wf hb i (by omega))
        obtain ⟨loop, l1, l2, l3, l4⟩ := ih (i + 1) stem (acc ++ [l]) (by omega) (by rw [List.length_append, List.length_singleton]; omega) hs (fun x hx' => by
          rcases List.mem_append.mp hx' with h | h
          · exact hx x h
          · rw [List.mem_singleton.mp h]; exact h3) (.inr (by rw [List.length_append, List.length_singleton]; omega))
        refine ⟨loop, l1, l2, l3, Ev.step (fun k => ?_) l4⟩
        simp only [foretellkeep_Word.l1]
        rw [if_pos c, if_pos (by omega), if_pos (by omega), hl', Option.bind_some, if_pos (by omega), w64 (n := (i : Int) + 1) (by omega) (by omega)]
        rfl
      · obtain ⟨loop, l1, l2, l3, l4⟩ := hend acc (by omega) hx stem
        refine ⟨loop, l1, l2, l3, Ev.step (f := fun _ => some (stem, loop)) (fun k => ?_) (Ev.now _)⟩
        simp only [foretellkeep_Word.l1]
        rw [if_neg c]; exact l4
  have h0 : ∀ (d i : Nat) (acc : List (List Bool)), i + d = 5 → acc.length ≤ i → (∀ x ∈ acc, x.length = 3) → ∃ stem loop : List (List Bool), stem.length ≤ 5 ∧ 1 ≤ loop.length ∧ loop.length ≤ 5 ∧ (∀ x ∈ stem ++ loop, x.length = 3) ∧ Ev (fun k => foretellkeep_Word.l0 k (i : Int) a b acc) (stem, loop) := by
    have hend : ∀ (acc : List (List Bool)), acc.length ≤ 5 → (∀ x ∈ acc, x.length = 3) → ∃ loop : List (List Bool), 1 ≤ loop.length ∧ loop.length ≤ 5 ∧ (∀ x ∈ acc ++ loop, x.length = 3) ∧ Ev (fun k => foretellkeep_Word.j1 k a b acc) (acc, loop) := by
      intro acc h5 hx
      obtain ⟨loop, l1, l2, l3, l4⟩ := h1 5 0 acc [] rfl (Nat.le_refl _) hx (fun x h => by simp at h) (.inl rfl)
      refine ⟨loop, l1, l2, fun x hx' => ?_, Ev.step (fun k => ?_) l4⟩
      · rcases List.mem_append.mp hx' with h | h
        · exact hx x h
        · exact l3 x h
      · simp only [foretellkeep_Word.j1]
        rfl
    intro d
    induction d with
    | zero =>
      intro i acc hi hl hx
      obtain ⟨loop, l1, l2, l3, l4⟩ := hend acc (by omega) hx
      refine ⟨acc, loop, by omega, l1, l2, l3, Ev.step (fun k => ?_) l4⟩
      simp only [foretellkeep_Word.l0]
      by_cases c : (i : Int) < (a.length : Int)
      · rw [if_pos c, if_neg (by omega)]
      · rw [if_neg c]
    | succ d ih =>
      intro i acc hi hl hx
      by_cases c : (i : Int) < (a.length : Int)
      · obtain ⟨l, hl', h3⟩ := letter_is (rd_wf ha i (by omega))
        obtain ⟨stem, loop, s1, l1, l2, l3, l4⟩ := ih (i + 1) (acc ++ [l]) (by omega) (by rw [List.length_append, List.length_singleton]; omega) (fun x hx' => by
          rcases List.mem_append.mp hx' with h | h
          · exact hx x h
          · rw [List.mem_singleton.mp h]; exact h3)
        refine ⟨stem, loop, s1, l1, l2, l3, Ev.step (fun k => ?_) l4⟩
        simp only [foretellkeep_Word.l0]
        rw [if_pos c, if_pos (by omega), if_pos (by omega), hl', Option.bind_some, if_pos (by omega), w64 (n := (i : Int) + 1) (by omega) (by omega)]
        rfl
      · obtain ⟨loop, l1, l2, l3, l4⟩ := hend acc (by omega) hx
        refine ⟨acc, loop, by omega, l1, l2, l3, Ev.step (fun k => ?_) l4⟩
        simp only [foretellkeep_Word.l0]
        rw [if_neg c]
  obtain ⟨stem, loop, s1, l1, l2, l3, l4⟩ := h0 5 0 [] rfl (Nat.le_refl _) (fun x h => by simp at h)
  exact ⟨stem, loop, s1, l1, l2, l3, l4⟩
theorem ok_of {stem loop : List (List Bool)} (h0 : stem.length ≤ 12) (h1 : 1 ≤ loop.length) (h2 : loop.length ≤ 12) (h3 : ∀ x ∈ stem ++ loop, x.length = 3) : WordOk 3 stem loop := ⟨h0, h1, h2, fun x hx => by rw [h3 x hx]; rfl⟩
theorem holds_is {stem loop : List (List Bool)} (hw : WordOk 3 stem loop) {t : Tm} (h : FormT 3 t) (hs : t.size ≤ 60) (ht : t.tempo ≤ 6) :
    ∃ v : Bool, Ev (fun k => foretellkeep_holds.f k t.flat stem loop) (v, true) ∧ (v = true ↔ t.says (uw (stem ++ loop) stem.length 0)) := by
  obtain ⟨r, h1, h2⟩ := moments_is (by decide) (by decide) hw h hs ht
  have hl : 0 < (stem ++ loop).length := by rw [List.length_append]; have := hw.l1; omega
  have e0 : rdOf false r 0 = gd r 0 := rdOf_gd r 0
  refine ⟨gd r 0, ?_, h1.2 0 hl⟩
  unfold foretellkeep_holds.f
  refine Ev.bind (a := (gd r 0, 0)) ?_ (Ev.now _)
  unfold word_Holds.f
  refine Ev.bind h2 ?_
  simp only [if_true]
  rw [if_pos (by rw [h1.1]; omega), e0]
  exact Ev.now _
end Go.Proofs.YtcoaeefmmnohkaaDoor.Q
end
section
namespace Go.Proofs.YtcoaeefmmnohkaaDoor.Q
open Go.RowKit Go.Proofs.YtcoaeefmmnohkaaDoorW.PrintWords Go.Proofs.YtcoaeefmmnohkaaDoorW.PrintMore Go.Proofs.YtcoaeefmmnohkaaDoor.P
set_option linter.unusedVariables false
end Go.Proofs.YtcoaeefmmnohkaaDoor.Q
end
section
namespace Go.Proofs.YtcoaeefmmnohkaaDoor.Q
open Go.RowKit Go.Proofs.YtcoaeefmmnohkaaDoorW.PrintWords Go.Proofs.YtcoaeefmmnohkaaDoorW.PrintLast Go.Proofs.YtcoaeefmmnohkaaDoorW.PrintMore Go.Proofs.YtcoaeefmmnohkaaDoor.P
set_option linter.unusedVariables false
structure Trm (w : World) (A : Option Addr) (n c : Nat) (t : Tm) : Prop where
  len : n = t.flat.length
  le : n ≤ c
  C : Kd.C k51 w A n t.flat
theorem Trm.below {w w' : World} {A : Option Addr} {n c : Nat} {t : Tm} (h : Trm w A n c t) (hb : Below w.heap.size w w') : Trm w' A n c t := ⟨h.len, h.le, Kd.C_below h.C hb⟩
theorem Trm.of {w : World} {base e : Nat} {ok : Nat → Prop} {v : Value} {t : Tm} (h : Kd.R k51 e w base ok v t.flat) : ∃ A n c, v = .slice A n c ∧ Trm w A n c t := by
  obtain ⟨A, c, rfl⟩ := Kd.R_slice h
  obtain ⟨_, h1, h2⟩ := Kd.R_reads' h
  exact ⟨A, _, c, rfl, rfl, h1, h2⟩
abbrev Trms := List (Option Addr × Nat × Nat × Tm)
structure Amb (w0 W : World) (g : Nat) (A1 A2 : Option Addr) (c1 c2 : Nat) (stem loop : List (List Bool)) (L : Trms) : Prop where
  bel : Below w0.heap.size w0 W
  glob : Glob W
  blk : W.heap[g]? = some (.cells #[.slice A1 stem.length c1, .slice A2 loop.length c2] 43 (0, 0))
  s : Kd.C (Kd.slice 4 Kd.bool) W A1 stem.length stem
  l : Kd.C (Kd.slice 4 Kd.bool) W A2 loop.length loop
  sc : stem.length ≤ c1
  lc : loop.length ≤ c2
  ts : ∀ x ∈ L, Trm W x.1 x.2.1 x.2.2.1 x.2.2.2
section
variable {w0 W w w' : World} {g : Nat} {A1 A2 : Option Addr} {c1 c2 : Nat} {stem loop : List (List Bool)} {L : Trms}
theorem Amb.below (h : Amb w0 W g A1 A2 c1 c2 stem loop L) (hb : Below W.heap.size W w') : Amb w0 w' g A1 A2 c1 c2 stem loop L :=
  ⟨below_step h.bel hb, h.glob.below hb, blk_below h.blk hb, Kd.C_below h.s hb, Kd.C_below h.l hb, h.sc, h.lc, fun x hx => (h.ts x hx).below hb⟩
theorem Amb.add (h : Amb w0 W g A1 A2 c1 c2 stem loop L) {A : Option Addr} {n c : Nat} {t : Tm} (ht : Trm W A n c t) : Amb w0 W g A1 A2 c1 c2 stem loop ((A, n, c, t) :: L) :=
  ⟨h.bel, h.glob, h.blk, h.s, h.l, h.sc, h.lc, fun x hx => by
    rcases List.mem_cons.mp hx with rfl | hx
    · exact ht
    · exact h.ts x hx⟩
theorem Amb.get (h : Amb w0 W g A1 A2 c1 c2 stem loop L) {A : Option Addr} {n c : Nat} {t : Tm} (hm : (A, n, c, t) ∈ L) : Trm W A n c t := h.ts _ hm
theorem Amb.c0 (h : Amb w0 W g A1 A2 c1 c2 stem loop L) : W.cell? ⟨g, 0, none⟩ = some (.slice A1 stem.length c1) := (blk_cell h.blk 0).trans rfl
theorem Amb.c1' (h : Amb w0 W g A1 A2 c1 c2 stem loop L) : W.cell? ⟨g, 1, none⟩ = some (.slice A2 loop.length c2) := (blk_cell h.blk 1).trans rfl
theorem formula_sem {raw : List Raw} (hw : rawWf raw) (tp : Int) (h0 : 0 ≤ tp) (h1 : tp ≤ 1000) (A : Option Addr) (c : Nat) (hr : Kd.C k79 w A raw.length raw) (hc : raw.length ≤ c) :
    Calls Tryd.prog 16 #[.slice A raw.length c, .int .i64 3, .int .i64 tp] w fun e w' => ∃ A' n c' t, e = .returned (.slice A' n c') ∧ FormT 3 t ∧ t.size ≤ 17 ∧ (t.tempo : Int) ≤ tp ∧ Trm w' A' n c' t ∧ Below w.heap.size w w' := by
  obtain ⟨t, ht, hs, htm, he⟩ := form_is hw tp h0 h1
  obtain ⟨k, hk⟩ := Ev.rounds he
  refine (foretellkeep_Formula.calls k A c raw 3 tp _ w hr hc hk).mono ?_
  rintro e w' ⟨v, rfl, hv, hb⟩
  obtain ⟨A', n, c', rfl, hT⟩ := Trm.of hv
  exact ⟨A', n, c', t, rfl, ht, hs, htm, hT, hb⟩
theorem word_sem {a b : List Int} (ha : intsWf a) (hb : intsWf b) (A B : Option Addr) (ca cb : Nat) (hra : Kd.C (Kd.int .i64) w A a.length a) (hca : a.length ≤ ca) (hrb : Kd.C (Kd.int .i64) w B b.length b) (hcb : b.length ≤ cb) :
    Calls Tryd.prog 23 #[.agg #[.slice A a.length ca, .slice B b.length cb]] w fun e w' => ∃ A1 A2 c1 c2 stem loop, e = .returned (.agg #[.slice A1 stem.length c1, .slice A2 loop.length c2]) ∧ stem.length ≤ 5 ∧ 1 ≤ loop.length ∧ loop.length ≤ 5 ∧ (∀ x ∈ stem ++ loop, x.length = 3) ∧
      Kd.C (Kd.slice 4 Kd.bool) w' A1 stem.length stem ∧ Kd.C (Kd.slice 4 Kd.bool) w' A2 loop.length loop ∧ stem.length ≤ c1 ∧ loop.length ≤ c2 ∧ Below w.heap.size w w' := by
  obtain ⟨stem, loop, z1, z2, z3, z4, he⟩ := word_is ha hb
  obtain ⟨k, hk⟩ := Ev.rounds he
  refine (foretellkeep_Word.calls k A ca a B cb b stem loop w hra hca hrb hcb hk).mono ?_
  rintro e w' ⟨v, u, rfl, hv, hu, hbl⟩
  obtain ⟨A1, c1, rfl, l1, r1⟩ := Kd.N_reads hv
  obtain ⟨A2, c2, rfl, l2, r2⟩ := Kd.N_reads hu
  exact ⟨A1, A2, c1, c2, stem, loop, rfl, z1, z2, z3, z4, r1, r2, l1, l2, hbl⟩
def Good (t : Tm) : Prop := FormT 3 t ∧ t.size ≤ 60 ∧ t.tempo ≤ 6
theorem holds_sem {A : Option Addr} {n c : Nat} {t : Tm} (hw : WordOk 3 stem loop) (ha : Amb w0 W g A1 A2 c1 c2 stem loop L) (hb0 : Below W.heap.size W w) (ht0 : Trm W A n c t) (hg : Good t) :
    Calls Tryd.prog 25 #[.slice A n c, .agg #[.slice A1 stem.length c1, .slice A2 loop.length c2]] w fun e w' => ∃ v : Bool, e = .returned (.tuple #[.bool v, .bool true]) ∧ (v = true ↔ t.says (uw (stem ++ loop) stem.length 0)) ∧ Amb w0 w' g A1 A2 c1 c2 stem loop L ∧ Below W.heap.size W w' := by
  have ha' := ha.below hb0
  obtain ⟨v, he, hv⟩ := holds_is hw hg.1 hg.2.1 hg.2.2
  obtain ⟨k, hk⟩ := Ev.rounds he
  obtain ⟨h1, h2, h3⟩ := ht0.below hb0
  subst h1
  refine (foretellkeep_holds.calls k A c t.flat A1 c1 stem A2 c2 loop v true w h3 h2 ha'.s ha'.sc ha'.l ha'.lc ha'.glob hk).mono ?_
  rintro e w' ⟨rfl, hb⟩
  exact ⟨v, rfl, hv, ha'.below hb, below_step hb0 hb⟩
def Rws (w : World) (n : Nat) (R : List (Nat × List Bool)) : Prop := ∀ x ∈ R, ∀ i, i < n → w.cell? ⟨x.1, i, none⟩ = some (.bool (gd x.2 i))
theorem Rws.below {n : Nat} {R : List (Nat × List Bool)} (h : Rws w n R) (hb : Below w.heap.size w w') : Rws w' n R := fun x hx i hi => pw_cell_below hb (h x hx i hi)
theorem Rws.add {n : Nat} {R : List (Nat × List Bool)} {g : Nat} {r : List Bool} (h : Rws w n R) (hc : ∀ i, i < n → w.cell? ⟨g, i, none⟩ = some (.bool (gd r i))) : Rws w n ((g, r) :: R) := fun x hx => by
  rcases List.mem_cons.mp hx with rfl | hx
  · exact hc
  · exact h x hx
theorem Rws.get {n : Nat} {R : List (Nat × List Bool)} {g : Nat} {r : List Bool} (h : Rws w n R) (hm : (g, r) ∈ R) {i : Nat} (hi : i < n) : w.cell? ⟨g, i, none⟩ = some (.bool (gd r i)) := h _ hm i hi
theorem trm_lit {q : Nat} {a b : Int} (hq : w.heap[q]? = some (.cells #[.int .i64 a, .int .i64 b] 51 (0, 0))) : Trm w (some ⟨q, 0, none⟩) 1 1 (.leaf ⟨a, b⟩) := by
  have q0 := (blk_cell hq 0).trans rfl
  have q1 := (blk_cell hq 1).trans rfl
  refine ⟨rfl, Nat.le_refl _, rfl, by decide, fun _ => ⟨_, rfl, fun j p hj => ?_⟩⟩
  match j, hj with
  | 0, hj =>
    obtain rfl := Option.some.inj hj
    refine ⟨[.int .i64 a, .int .i64 b], rfl, ?_, fun i u hu => ?_⟩
    · exact ⟨[.int .i64 a], [.int .i64 b], rfl, rfl, rfl⟩
    · match i, hu with
      | 0, hu =>
        obtain rfl := Option.some.inj hu
        exact q0
      | 1, hu =>
        obtain rfl := Option.some.inj hu
        exact q1
end
end Go.Proofs.YtcoaeefmmnohkaaDoor.Q
end
