/- The callees of the laws of words, said by formulas and words alone: for the walks of laws that are walked by hand. -/
import Derived.Test.YtcoaeefmmnohkaaDoorQSpell
import Derived.Test.YtcoaeefmmnohkaaDoorFForm
import Derived.Test.YtcoaeefmmnohkaaDoorFForetellkeepSmall
namespace Go.Proofs.YtcoaeefmmnohkaaDoor.Q
open Go.RowKit Go.Proofs.YtcoaeefmmnohkaaDoorW.PrintWords Go.Proofs.YtcoaeefmmnohkaaDoorW.PrintLast Go.Proofs.YtcoaeefmmnohkaaDoorW.PrintMore Go.Proofs.YtcoaeefmmnohkaaDoor.P
set_option linter.unusedVariables false
/-- A term that lies in memory. -/
structure Trm (w : World) (A : Option Addr) (n c : Nat) (t : Tm) : Prop where
  len : n = t.flat.length
  le : n ≤ c
  C : Kd.C k51 w A n t.flat
theorem Trm.below {w w' : World} {A : Option Addr} {n c : Nat} {t : Tm} (h : Trm w A n c t) (hb : Below w.heap.size w w') : Trm w' A n c t := ⟨h.len, h.le, Kd.C_below h.C hb⟩
theorem Trm.of {w : World} {base e : Nat} {ok : Nat → Prop} {v : Value} {t : Tm} (h : Kd.R k51 e w base ok v t.flat) : ∃ A n c, v = .slice A n c ∧ Trm w A n c t := by
  obtain ⟨A, c, rfl⟩ := Kd.R_slice h
  obtain ⟨_, h1, h2⟩ := Kd.R_reads' h
  exact ⟨A, _, c, rfl, rfl, h1, h2⟩
abbrev Trms := List (Option Addr × Nat × Nat × Tm)
/-- What lies around: the word, and terms. -/
structure Amb (w0 W : World) (g : Nat) (A1 A2 : Option Addr) (c1 c2 : Nat) (stem loop : List (List Bool)) (L : Trms) : Prop where
  bel : Below w0.heap.size w0 W
  glob : Glob W
  blk : W.heap[g]? = some (.cells #[.slice A1 stem.length c1, .slice A2 loop.length c2] 43 (0, 0))
  s : Kd.C (Kd.slice 4 Kd.bool) W A1 stem.length stem
  l : Kd.C (Kd.slice 4 Kd.bool) W A2 loop.length loop
  sc : stem.length ≤ c1
  lc : loop.length ≤ c2
  ts : ∀ x ∈ L, Trm W x.1 x.2.1 x.2.2.1 x.2.2.2
section
variable {w0 W w w' : World} {g : Nat} {A1 A2 : Option Addr} {c1 c2 : Nat} {stem loop : List (List Bool)} {L : Trms}
theorem Amb.below (h : Amb w0 W g A1 A2 c1 c2 stem loop L) (hb : Below W.heap.size W w') : Amb w0 w' g A1 A2 c1 c2 stem loop L :=
  ⟨below_step h.bel hb, h.glob.below hb, blk_below h.blk hb, Kd.C_below h.s hb, Kd.C_below h.l hb, h.sc, h.lc, fun x hx => (h.ts x hx).below hb⟩
theorem Amb.add (h : Amb w0 W g A1 A2 c1 c2 stem loop L) {A : Option Addr} {n c : Nat} {t : Tm} (ht : Trm W A n c t) : Amb w0 W g A1 A2 c1 c2 stem loop ((A, n, c, t) :: L) :=
  ⟨h.bel, h.glob, h.blk, h.s, h.l, h.sc, h.lc, fun x hx => by
    rcases List.mem_cons.mp hx with rfl | hx
    · exact ht
    · exact h.ts x hx⟩
theorem Amb.get (h : Amb w0 W g A1 A2 c1 c2 stem loop L) {A : Option Addr} {n c : Nat} {t : Tm} (hm : (A, n, c, t) ∈ L) : Trm W A n c t := h.ts _ hm
theorem Amb.c0 (h : Amb w0 W g A1 A2 c1 c2 stem loop L) : W.cell? ⟨g, 0, none⟩ = some (.slice A1 stem.length c1) := (blk_cell h.blk 0).trans rfl
theorem Amb.c1' (h : Amb w0 W g A1 A2 c1 c2 stem loop L) : W.cell? ⟨g, 1, none⟩ = some (.slice A2 loop.length c2) := (blk_cell h.blk 1).trans rfl
theorem formula_sem {raw : List Raw} (hw : rawWf raw) (tp : Int) (h0 : 0 ≤ tp) (h1 : tp ≤ 1000) (A : Option Addr) (c : Nat) (hr : Kd.C k79 w A raw.length raw) (hc : raw.length ≤ c) :
    Calls Tryd.prog 16 #[.slice A raw.length c, .int .i64 3, .int .i64 tp] w fun e w' => ∃ A' n c' t, e = .returned (.slice A' n c') ∧ FormT 3 t ∧ t.size ≤ 17 ∧ (t.tempo : Int) ≤ tp ∧ Trm w' A' n c' t ∧ Below w.heap.size w w' := by
  obtain ⟨t, ht, hs, htm, he⟩ := form_is hw tp h0 h1
  obtain ⟨k, hk⟩ := Ev.rounds he
  refine (foretellkeep_Formula.calls k A c raw 3 tp _ w hr hc hk).mono ?_
  rintro e w' ⟨v, rfl, hv, hb⟩
  obtain ⟨A', n, c', rfl, hT⟩ := Trm.of hv
  exact ⟨A', n, c', t, rfl, ht, hs, htm, hT, hb⟩
theorem small_sem {raw : List Raw} (hw : rawWf raw) (A : Option Addr) (c : Nat) (hr : Kd.C k79 w A raw.length raw) (hc : raw.length ≤ c) :
    Calls Tryd.prog 26 #[.slice A raw.length c] w fun e w' => ∃ A' n c' t, e = .returned (.slice A' n c') ∧ FormT 3 t ∧ t.size ≤ 7 ∧ t.tempo ≤ 1 ∧ Trm w' A' n c' t ∧ Below w.heap.size w w' := by
  obtain ⟨t, ht, hs, _, htm, h2, he⟩ := form_gen hw 3 (by decide) (by decide) 2 0 1 [] (by decide) (by decide) (by decide) (by decide) (by decide) (by decide)
  have he' : Ev (fun k => foretellkeep_small.f k raw) t.flat := by
    unfold foretellkeep_small.f
    exact Ev.bind he (Ev.now _)
  obtain ⟨k, hk⟩ := Ev.rounds he'
  refine (foretellkeep_small.calls k A c raw _ w hr hc hk).mono ?_
  rintro e w' ⟨v, rfl, hv, hb⟩
  obtain ⟨A', n, c', rfl, hT⟩ := Trm.of hv
  exact ⟨A', n, c', t, rfl, ht, h2, by omega, hT, hb⟩
theorem word_sem {a b : List Int} (ha : intsWf a) (hb : intsWf b) (A B : Option Addr) (ca cb : Nat) (hra : Kd.C (Kd.int .i64) w A a.length a) (hca : a.length ≤ ca) (hrb : Kd.C (Kd.int .i64) w B b.length b) (hcb : b.length ≤ cb) :
    Calls Tryd.prog 23 #[.agg #[.slice A a.length ca, .slice B b.length cb]] w fun e w' => ∃ A1 A2 c1 c2 stem loop, e = .returned (.agg #[.slice A1 stem.length c1, .slice A2 loop.length c2]) ∧ stem.length ≤ 5 ∧ 1 ≤ loop.length ∧ loop.length ≤ 5 ∧ (∀ x ∈ stem ++ loop, x.length = 3) ∧
      Kd.C (Kd.slice 4 Kd.bool) w' A1 stem.length stem ∧ Kd.C (Kd.slice 4 Kd.bool) w' A2 loop.length loop ∧ stem.length ≤ c1 ∧ loop.length ≤ c2 ∧ Below w.heap.size w w' := by
  obtain ⟨stem, loop, z1, z2, z3, z4, he⟩ := word_is ha hb
  obtain ⟨k, hk⟩ := Ev.rounds he
  refine (foretellkeep_Word.calls k A ca a B cb b stem loop w hra hca hrb hcb hk).mono ?_
  rintro e w' ⟨v, u, rfl, hv, hu, hbl⟩
  obtain ⟨A1, c1, rfl, l1, r1⟩ := Kd.N_reads hv
  obtain ⟨A2, c2, rfl, l2, r2⟩ := Kd.N_reads hu
  exact ⟨A1, A2, c1, c2, stem, loop, rfl, z1, z2, z3, z4, r1, r2, l1, l2, hbl⟩
theorem joined1_sem (o : Int) (q : Nat) {A : Option Addr} {n c : Nat} {t : Tm} (ha : Amb w0 W g A1 A2 c1 c2 stem loop L) (hb0 : Below W.heap.size W w) (hq : w.cell? ⟨q, 0, none⟩ = some (.slice A n c)) (hm : (A, n, c, t) ∈ L) (hs : t.size ≤ 1000) :
    Calls Tryd.prog 21 #[.int .i64 o, .slice (some ⟨q, 0, none⟩) 1 1] w fun e w' => ∃ A' n' c', e = .returned (.slice A' n' c') ∧ Amb w0 w' g A1 A2 c1 c2 stem loop ((A', n', c', .un ⟨o, 0⟩ t) :: L) := by
  have ht : Trm w A n c t := (ha.ts _ hm).below hb0
  obtain ⟨k, hk⟩ := Ev.rounds (joined1 o t (by omega))
  have hC : Kd.C (Kd.slice 51 k51) w (some ⟨q, 0, none⟩) [t.flat].length [t.flat] := by
    refine ⟨rfl, by simp, fun _ => ⟨_, rfl, fun j p hj => ?_⟩⟩
    match j, hj with
    | 0, hj =>
      obtain rfl := Option.some.inj hj
      refine ⟨[.slice A n c], rfl, ⟨A, c, by rw [ht.len], by have := ht.le; have := ht.len; omega, by have := ht.C; rw [ht.len] at this; exact this⟩, fun i u hu => ?_⟩
      match i, hu with
      | 0, hu =>
        obtain rfl := Option.some.inj hu
        have e : (⟨q, 0, none⟩ : Addr).add (0 * (Kd.slice 51 k51).sz + 0) = ⟨q, 0, none⟩ := rfl
        rw [e]
        exact hq
  refine (foretellkeep_joined.calls k o (some ⟨q, 0, none⟩) 1 [t.flat] _ w hC (Nat.le_refl _) hk).mono ?_
  rintro e w' ⟨v, rfl, hv, hb⟩
  obtain ⟨A', n', c', rfl, hT⟩ := Trm.of (t := .un ⟨o, 0⟩ t) hv
  exact ⟨A', n', c', rfl, ((ha.below hb0).below hb).add hT⟩
theorem joined2_sem (o : Int) (q : Nat) {A B : Option Addr} {n c m d : Nat} {t u : Tm} (ha : Amb w0 W g A1 A2 c1 c2 stem loop L) (hb0 : Below W.heap.size W w) (hq : w.cell? ⟨q, 0, none⟩ = some (.slice A n c)) (hq2 : w.cell? ⟨q, 1, none⟩ = some (.slice B m d)) (hm : (A, n, c, t) ∈ L) (hm2 : (B, m, d, u) ∈ L) (hs : t.size + u.size ≤ 1000) :
    Calls Tryd.prog 21 #[.int .i64 o, .slice (some ⟨q, 0, none⟩) 2 2] w fun e w' => ∃ A' n' c', e = .returned (.slice A' n' c') ∧ Amb w0 w' g A1 A2 c1 c2 stem loop ((A', n', c', .bin ⟨o, 0⟩ t u) :: L) := by
  have ht : Trm w A n c t := (ha.ts _ hm).below hb0
  have hu : Trm w B m d u := (ha.ts _ hm2).below hb0
  obtain ⟨k, hk⟩ := Ev.rounds (joined2 o t u (by omega))
  have hC : Kd.C (Kd.slice 51 k51) w (some ⟨q, 0, none⟩) [t.flat, u.flat].length [t.flat, u.flat] := by
    refine ⟨rfl, by simp, fun _ => ⟨_, rfl, fun j p hj => ?_⟩⟩
    match j, hj with
    | 0, hj =>
      obtain rfl := Option.some.inj hj
      refine ⟨[.slice A n c], rfl, ⟨A, c, by rw [ht.len], by have := ht.le; have := ht.len; omega, by have := ht.C; rw [ht.len] at this; exact this⟩, fun i u' hu' => ?_⟩
      match i, hu' with
      | 0, hu' =>
        obtain rfl := Option.some.inj hu'
        have e : (⟨q, 0, none⟩ : Addr).add (0 * (Kd.slice 51 k51).sz + 0) = ⟨q, 0, none⟩ := rfl
        rw [e]
        exact hq
    | 1, hj =>
      obtain rfl := Option.some.inj hj
      refine ⟨[.slice B m d], rfl, ⟨B, d, by rw [hu.len], by have := hu.le; have := hu.len; omega, by have := hu.C; rw [hu.len] at this; exact this⟩, fun i u' hu' => ?_⟩
      match i, hu' with
      | 0, hu' =>
        obtain rfl := Option.some.inj hu'
        have e : (⟨q, 0, none⟩ : Addr).add (1 * (Kd.slice 51 k51).sz + 0) = ⟨q, 1, none⟩ := rfl
        rw [e]
        exact hq2
  refine (foretellkeep_joined.calls k o (some ⟨q, 0, none⟩) 2 [t.flat, u.flat] _ w hC (Nat.le_refl _) hk).mono ?_
  rintro e w' ⟨v, rfl, hv, hb⟩
  obtain ⟨A', n', c', rfl, hT⟩ := Trm.of (t := .bin ⟨o, 0⟩ t u) hv
  exact ⟨A', n', c', rfl, ((ha.below hb0).below hb).add hT⟩
/-- A formula that is not too great. -/
def Good (t : Tm) : Prop := FormT 3 t ∧ t.size ≤ 60 ∧ t.tempo ≤ 6
theorem holds_sem {A : Option Addr} {n c : Nat} {t : Tm} (hw : WordOk 3 stem loop) (ha : Amb w0 W g A1 A2 c1 c2 stem loop L) (hb0 : Below W.heap.size W w) (ht0 : Trm W A n c t) (hg : Good t) :
    Calls Tryd.prog 25 #[.slice A n c, .agg #[.slice A1 stem.length c1, .slice A2 loop.length c2]] w fun e w' => ∃ v : Bool, e = .returned (.tuple #[.bool v, .bool true]) ∧ (v = true ↔ t.says (uw (stem ++ loop) stem.length 0)) ∧ Amb w0 w' g A1 A2 c1 c2 stem loop L ∧ Below W.heap.size W w' := by
  have ha' := ha.below hb0
  obtain ⟨v, he, hv⟩ := holds_is hw hg.1 hg.2.1 hg.2.2
  obtain ⟨k, hk⟩ := Ev.rounds he
  obtain ⟨h1, h2, h3⟩ := ht0.below hb0
  subst h1
  refine (foretellkeep_holds.calls k A c t.flat A1 c1 stem A2 c2 loop v true w h3 h2 ha'.s ha'.sc ha'.l ha'.lc ha'.glob hk).mono ?_
  rintro e w' ⟨rfl, hb⟩
  exact ⟨v, rfl, hv, ha'.below hb, below_step hb0 hb⟩
theorem moments_empty {t : Tm} (hg : Good t) : Ev (fun k => word_Moments.f k t.flat [] [] 3) ([], 1) := by
  unfold word_Moments.f
  refine Ev.bind (a := ([], 1)) ?_ (ev_some' rfl)
  unfold word_opn
  refine Ev.bind (check_is (by decide) (by decide) hg.1 hg.2.1 hg.2.2) ?_
  exact ev_some' rfl
theorem moments_none_sem {A : Option Addr} {n c : Nat} {t : Tm} (ha : Amb w0 w g A1 A2 c1 c2 stem loop L) (hm : (A, n, c, t) ∈ L) (hg : Good t) :
    Calls Tryd.prog 24 #[.slice A n c, .agg #[.slice none 0 0, .slice none 0 0], .int .i64 3] w fun e w' => ∃ v, e = .returned (.tuple #[v, .int .i64 1]) ∧ Below w0.heap.size w0 w' := by
  have ht : Trm w A n c t := ha.ts _ hm
  obtain ⟨k, hk⟩ := Ev.rounds (moments_empty hg)
  obtain ⟨h1, h2, h3⟩ := ht
  subst h1
  refine (word_Moments.calls k A c t.flat none 0 [] none 0 [] 3 [] 1 w h3 h2 (Kd.C_nil _ _) (Nat.le_refl _) (Kd.C_nil _ _) (Nat.le_refl _) ha.glob hk).mono ?_
  rintro e w' ⟨v, rfl, _, hb⟩
  exact ⟨v, rfl, below_step ha.bel hb⟩
/-- A formula of one op, told in place. -/
theorem trm_lit {q : Nat} {a b : Int} (hq : w.heap[q]? = some (.cells #[.int .i64 a, .int .i64 b] 51 (0, 0))) : Trm w (some ⟨q, 0, none⟩) 1 1 (.leaf ⟨a, b⟩) := by
  have q0 := (blk_cell hq 0).trans rfl
  have q1 := (blk_cell hq 1).trans rfl
  refine ⟨rfl, Nat.le_refl _, rfl, by decide, fun _ => ⟨_, rfl, fun j p hj => ?_⟩⟩
  match j, hj with
  | 0, hj =>
    obtain rfl := Option.some.inj hj
    refine ⟨[.int .i64 a, .int .i64 b], rfl, ?_, fun i u hu => ?_⟩
    · exact ⟨[.int .i64 a], [.int .i64 b], rfl, rfl, rfl⟩
    · match i, hu with
      | 0, hu =>
        obtain rfl := Option.some.inj hu
        exact q0
      | 1, hu =>
        obtain rfl := Option.some.inj hu
        exact q1
end
section
variable {P : Program} {ops : Array Oper} {rest : List Oper} {o : Oper} {a : Act} {Q : Exit → Act → World → Prop}
theorem build_event {W : World} (hgd : o.guard = none) {N : Tmp} (_hd : o.dst = some N) {cs : Array Value} {t : TypeId} {m : Nat}
    (hrun : (execOp a.eval o).run P W = .ok (.value (.slice (some ⟨W.heap.size, 0, none⟩) m m)) (W.alloc (.cells cs t (0, 0))))
    (h : ∀ g, g = W.heap.size → ∀ w1, w1.heap[g]? = some (.cells cs t (0, 0)) → Below W.heap.size W w1 → wpList P ops Q rest (a.put o.dst (.slice (some ⟨g, 0, none⟩) m m)) w1) : wpList P ops Q (o :: rest) a W :=
  Kd.event_run hgd hrun (h _ rfl _ (blk_new W _) (below_alloc (Below.refl _ _) _))
end
end Go.Proofs.YtcoaeefmmnohkaaDoor.Q
