-- PACKED by pack.py of this repo: FStepReach
import Derived.WalkSpells
import Derived.WalkLawsBesides
import Derived.Maps.OwnSet
import Derived.Maps.Views
import Derived.Maps.Keyed
import Derived.ChangeKeys
import Derived.Deep.RegionHeld3
import Derived.Deep.DrawnRows
import Derived.Test.YteennleoieafiaaDoorK1
import Derived.Test.YteennleoieafiaaDoorK11
import Derived.Test.YteennleoieafiaaDoorK18
import Derived.Test.YteennleoieafiaaDoorK2
section
namespace Go.Proofs.YteennleoieafiaaDoor.P
open Go.RowKit Go.Proofs.YteennleoieafiaaDoorW.PrintWords Go.Proofs.YteennleoieafiaaDoorW.PrintLast Go.Proofs.YteennleoieafiaaDoorW.PrintMore Go.Proofs.YteennleoieafiaaDoor.G
attribute [local go_sem] max2_int min2_int max_two min_two max_three min_three max_four min_four   -- for this text's walks alone
set_option linter.unusedVariables false
set_option linter.unusedSimpArgs false

/-! ### step_Reach: function 27 -/
--IMPORT FModelFirst
--IMPORT FStepNext
--IMPORT Sort
--IMPORT Derived.WalkSpells
--IMPORT Derived.WalkLawsBesides
--IMPORT Derived.Maps.OwnSet
--IMPORT Derived.Maps.Views
--IMPORT Derived.Maps.Keyed
--IMPORT Derived.ChangeKeys
--IMPORT Derived.Deep.RegionHeld3
--IMPORT Derived.Deep.DrawnRows
open Go.Maps Go.WideMaps
/-- What of a row is new. -/
def step_Reach.add : List Int → List Int → List Int
  | l, [] => l
  | l, n :: ns => if n ∈ l then step_Reach.add l ns else step_Reach.add (l ++ [n]) ns
def step_Reach.small (ns : List Int) : Bool := ns.all fun n => decide (0 ≤ n ∧ n ≤ 1000000)
def step_Reach.go (vs : List S32) (rs : List S42) : Nat → Int → List Int → Option (List Int)
  | 0, _, _ => none
  | k + 1, i, l => if i < (l.length : Int) then (if l.length ≤ 1000000 then ((step_Next.f k vs rs (rd l i)).bind fun r => if step_Reach.small r.1 = true ∧ r.1.length ≤ 1000000 then step_Reach.go vs rs k (i + 1) (step_Reach.add l r.1) else none) else none) else if l.length ≤ 1000000 then some l else none
def step_Reach.f (k : Nat) (l0_0 : List (S32)) (l0_1 : List (S42)) : Option (List Int × Int) := (model_First.f k l0_0 l0_1).bind fun r => if r.2 = 0 then (if 0 ≤ r.1 ∧ r.1 ≤ 1000000 then (step_Reach.go l0_0 l0_1 k 0 [r.1]).bind fun l => some (srt l, 0) else none) else some ([], r.2)
theorem step_Reach.go_mono (vs : List S32) (rs : List S42) : ∀ k i l, LeO (step_Reach.go vs rs k i l) (step_Reach.go vs rs (k + 1) i l)
  | 0, _, _ => LeO.none _
  | k + 1, i, l => by
    unfold step_Reach.go
    exact LeO.ite (LeO.ite (LeO.bind (step_Next.mono _ _ _ _) (fun _ => LeO.ite (step_Reach.go_mono vs rs k _ _) (LeO.none _))) (LeO.none _)) (LeO.refl _)
theorem step_Reach.mono : ∀ a0 a1 k, LeO (step_Reach.f k a0 a1) (step_Reach.f (k + 1) a0 a1) := by
  intro a0 a1 k
  unfold step_Reach.f
  exact LeO.bind (model_First.mono _ _ _) (fun _ => LeO.ite (LeO.ite (LeO.bind (step_Reach.go_mono _ _ _ _ _) (fun _ => LeO.refl _)) (LeO.refl _)) (LeO.refl _))
def step_Reach.keys (l : List Int) : List Lit := l.map fun n => .int .i64 n
def step_Reach.set (l : List Int) : DataW Unit := setOf (.agg []) (step_Reach.keys l)
theorem step_Reach.set_snoc (l : List Int) (n : Int) : step_Reach.set (l ++ [n]) = (step_Reach.set l).put (.int .i64 n) (.agg []) := by
  unfold step_Reach.set step_Reach.keys
  rw [List.map_append, List.map_singleton, setOf_snoc]
theorem step_Reach.same (a b : Int) : (Lit.int .i64 a).sameKey (Lit.int .i64 b) = decide (a = b) := by
  by_cases c : a = b
  · subst c
    simp [Lit.sameKey]
  · rw [sameKey_ne (fun h => c (by injection h)), decide_eq_false c]
theorem step_Reach.has_set (l : List Int) (k : Int) : Maps.has (step_Reach.set l) (.int .i64 k) = decide (k ∈ l) := by
  unfold step_Reach.set
  rw [has_setOf _ _ _ (fun x hx => by
    obtain ⟨v, _, rfl⟩ := List.mem_map.1 hx
    trivial)]
  unfold step_Reach.keys
  rw [List.any_map, Bool.eq_iff_iff, List.any_eq_true, decide_eq_true_iff]
  constructor
  · rintro ⟨v, hv, h⟩
    rw [Function.comp_apply, step_Reach.same, decide_eq_true_iff] at h
    subst h
    exact hv
  · intro hv
    exact ⟨k, hv, by rw [Function.comp_apply, step_Reach.same, decide_eq_true_iff]⟩
theorem step_Reach.law : Keyed Tryd.prog 3 := int_keyed Tryd.underlying3
theorem step_Reach.key {n : Int} (h0 : 0 ≤ n) (h1 : n ≤ 1000000) : keyOf Tryd.prog 3 (.int .i64 n) = some (.int .i64 n) := by
  refine keyOf_int_mk Tryd.underlying3 ?_
  simp only [Lit.wf, IntKind.min, IntKind.max, IntKind.signed, IntKind.bits, Bool.and_eq_true, decide_eq_true_eq, if_true]
  omega
theorem map_ne {α : Type} {d : Kd α} {P : Program} {k b n : Nat} {Rr : Value → Option (DataW Unit × List MemPlace)} {D : DataW Unit} {w : World} {e base : Nat} {ok : Nat → Prop} {v : Value} {xs : List α} (h : w.ownsMap P k Rr b n D) (hr : d.R e w base ok v xs) : some b ≠ v.ownBlock := by
  intro he
  obtain ⟨inner, ho⟩ := Kd.R_own hr
  obtain ⟨cells, hc⟩ := own_typed ho b he.symm
  obtain ⟨es, cl, h1, _⟩ := h
  rw [hc] at h1
  cases h1
theorem R_map {α : Type} {d : Kd α} {P : Program} {k b n : Nat} {Rr : Value → Option (DataW Unit × List MemPlace)} {D : DataW Unit} {w w1 : World} {e base : Nat} {ok : Nat → Prop} {v : Value} {xs : List α} (hr : d.R e w base ok v xs) (h : w.ownsMap P k Rr b n D) (hg : w.grownBy w1 (some b)) : d.R e w1 base ok v xs := by
  refine Kd.R_mono (Kd.R_grown (Kd.R_bound hr) hg (fun k hk he => ?_)) (fun _ hk => hk.1)
  obtain ⟨_, _, _, q, _, cells, hc⟩ := hk
  injection he with he
  subst he
  obtain ⟨es, cl, h1, _⟩ := h
  rw [hc] at h1
  cases h1
theorem map_at {P : Program} {k b n : Nat} {Rr : Value → Option (DataW Unit × List MemPlace)} {D : DataW Unit} {w w' : World} (h : w.ownsMap P k Rr b n D) (e : w'.heap[b]? = w.heap[b]?) : w'.ownsMap P k Rr b n D := by
  obtain ⟨es, cl, h1, h2⟩ := h
  exact ⟨es, cl, e.trans h1, h2⟩
theorem blk_map_ne {P : Program} {k b n g t : Nat} {cs : Array Value} {Rr : Value → Option (DataW Unit × List MemPlace)} {D : DataW Unit} {w : World} (h : w.ownsMap P k Rr b n D) (hb : w.heap[g]? = some (.cells cs t (0, 0))) : some g ≠ some b := by
  intro he
  injection he with he
  subst he
  obtain ⟨es, cl, h1, _⟩ := h
  rw [hb] at h1
  cases h1
structure step_Reach.At (w0 w : World) (g1 gm : Nat) (D : Array Value) (v : Value) (l : List Int) (lo hi : Nat) : Prop where
  b1 : w.heap[g1]? = some (.cells D 29 (0, 0))
  mp : w.ownsMap Tryd.prog 3 unitElem gm l.length (step_Reach.set l)
  rl : Kd.R (Kd.int .i64) 3 w w0.heap.size (fun k => k < lo ∨ hi ≤ k) v l
  bel : Below w0.heap.size w0 w
  gmb : w0.heap.size ≤ gm
  gml : gm < w.heap.size
  hib : hi ≤ w.heap.size
/-- The map has the number; the list has it not yet. -/
structure step_Reach.Half (w0 w : World) (g1 gm : Nat) (D : Array Value) (v : Value) (l : List Int) (n : Int) (lo hi : Nat) : Prop where
  b1 : w.heap[g1]? = some (.cells D 29 (0, 0))
  mp : w.ownsMap Tryd.prog 3 unitElem gm (l.length + 1) (step_Reach.set (l ++ [n]))
  rl : Kd.R (Kd.int .i64) 3 w w0.heap.size (fun k => k < lo ∨ hi ≤ k) v l
  bel : Below w0.heap.size w0 w
  gmb : w0.heap.size ≤ gm
  gml : gm < w.heap.size
  hib : hi ≤ w.heap.size
section
variable {w0 w w' : World} {g1 gm lo hi : Nat} {D : Array Value} {v : Value} {l : List Int} {n : Int}
theorem step_Reach.At.start {f1 : Int} {w3 : World} {v4 : Value} (hb1 : w3.heap[g1]? = some (.cells D 29 (0, 0))) (hm : w3.ownsMap Tryd.prog 3 unitElem gm (0 + 1) ((step_Reach.set []).put (.int .i64 f1) (.agg []))) (hs : gm < w3.heap.size) (hb : Below w0.heap.size w0 w3) (hg0 : w0.heap.size ≤ gm)
    (hr : Kd.R (Kd.int .i64) 3 w w0.heap.size (fun _ => True) v4 [f1]) (hbw : Below w0.heap.size w0 w) (hgw : w3.grownBy w none) : step_Reach.At w0 w g1 gm D v4 [f1] 0 0 :=
  ⟨blk_grown hb1 hgw (by simp), map_at (n := 1) (by have h := step_Reach.set_snoc [] f1; rw [List.nil_append] at h; rw [h]; exact hm) (hgw.block gm hs (by simp)), Kd.R_mono hr (fun k _ => Or.inr (Nat.zero_le k)), hbw, hg0, Nat.lt_of_lt_of_le hs hgw.size, Nat.zero_le _⟩
theorem step_Reach.At.below (h : step_Reach.At w0 w g1 gm D v l lo hi) (hb : Below w.heap.size w w') : step_Reach.At w0 w' g1 gm D v l lo hi :=
  ⟨blk_below h.b1 hb, map_at h.mp (hb.block _ h.gml), Kd.R_below h.rl hb, below_step h.bel hb, h.gmb, Nat.lt_of_lt_of_le h.gml hb.size, Nat.le_trans h.hib hb.size⟩
theorem step_Reach.At.next (h : step_Reach.At w0 w g1 gm D v l lo hi) (hb : Below w.heap.size w w') : step_Reach.At w0 w' g1 gm D v l w.heap.size w'.heap.size :=
  ⟨blk_below h.b1 hb, map_at h.mp (hb.block _ h.gml), Kd.R_mono (Kd.R_below (Kd.R_bound h.rl) hb) (fun k hk => Or.inl hk.2.2.1), below_step h.bel hb, h.gmb, Nat.lt_of_lt_of_le h.gml hb.size, Nat.le_refl _⟩
theorem step_Reach.At.again (h : step_Reach.At w0 w g1 gm D v l lo hi) : step_Reach.At w0 w g1 gm D v l 0 0 :=
  ⟨h.b1, h.mp, Kd.R_mono h.rl (fun k _ => Or.inr (Nat.zero_le _)), h.bel, h.gmb, h.gml, Nat.zero_le _⟩
theorem step_Reach.At.put (h : step_Reach.At w0 w g1 gm D v l lo hi) (hm : w'.ownsMap Tryd.prog 3 unitElem gm (l.length + 1) ((step_Reach.set l).put (.int .i64 n) (.agg []))) (hg : w.grownBy w' (some gm)) : step_Reach.Half w0 w' g1 gm D v l n lo hi :=
  ⟨blk_grown h.b1 hg (blk_map_ne h.mp h.b1), by rw [step_Reach.set_snoc]; exact hm, R_map h.rl h.mp hg, h.bel.grown hg h.bel.size (fun k hk => by cases hk; exact h.gmb), h.gmb, Nat.lt_of_lt_of_le h.gml hg.size, Nat.le_trans h.hib hg.size⟩
theorem step_Reach.At.push {v' : Value} (h : step_Reach.Half w0 w g1 gm D v l n lo hi) (ho : Kd.R (Kd.int .i64) 3 w' w0.heap.size (fun k => k < lo ∨ hi ≤ k) v' (l ++ [n])) (hb : Below w0.heap.size w0 w') (hg : w.grownBy w' v.ownBlock) : step_Reach.At w0 w' g1 gm D v' (l ++ [n]) lo hi :=
  ⟨blk_grown h.b1 hg (Kd.R_ne h.rl h.b1 (by decide)), by rw [List.length_append, List.length_singleton]; exact map_at h.mp (hg.block gm h.gml (map_ne h.mp h.rl)), ho, hb, h.gmb, Nat.lt_of_lt_of_le h.gml hg.size, Nat.le_trans h.hib hg.size⟩
end
theorem gate_insert' {P : Program} {w : World} {ops : Array Oper} {rest : List Oper} {o : Oper} {a : Act} {Q : Exit → Act → World → Prop} {t : TypeId} {m x v : Operand} (_h : o.op = Op.insert t m x v) (h : wpList P ops Q (o :: rest) a w) : wpList P ops Q (o :: rest) a w := h
theorem wpList_insert_own {H : Type} {P : Program} (w : World) {ops : Array Oper} {rest : List Oper} {o : Oper} {a : Act} {Q : Exit → Act → World → Prop}
    (hg : o.guard = none) (m x v : Operand) (t : TypeId) (hop : o.op = Op.insert t m x v)
    (k e : TypeId) (K : Keyed P k) (ht : P.underlying t = some (.map k e)) (R : Value → Option (DataW H × List MemPlace)) (b n : Nat) (D : DataW H)
    (hm : a.eval m = .map (some b)) (hown : w.ownsMap P k R b n D) (hn : n < maxLen) (key val : Value) (kl : Lit) (hx : a.eval x = key) (hv : a.eval v = val) (hkey : keyOf P k key = some kl)
    (d : DataW H) (ps : List MemPlace) (hval : R val = some (d, ps))
    (hK : ∀ w', w'.ownsMap P k R b (n + 1) (D.put kl d) → w.grownBy w' (some b) → wpList P ops Q rest (a.put o.dst undef) w') :
    wpList P ops Q (o :: rest) a w := by
  refine wpList_plain hg fun K' hK' => ?_
  obtain ⟨w', hrun, r1, r2⟩ := hown.update K ht hn hkey hval
  unfold Oper.wp
  simp [execOp, hop, hm, hx, hv, hrun, Result.andThen]
  exact hK' _ _ (hK w' r1 r2)
theorem step_Reach.add_cons (l : List Int) (n : Int) (ns : List Int) : step_Reach.add l (n :: ns) = if n ∈ l then step_Reach.add l ns else step_Reach.add (l ++ [n]) ns := by rw [step_Reach.add]
theorem step_Reach.add_len : ∀ (ns l : List Int), l.length ≤ (step_Reach.add l ns).length
  | [], l => Nat.le_refl _
  | n :: ns, l => by
    rw [step_Reach.add_cons]
    split
    · exact step_Reach.add_len ns l
    · have := step_Reach.add_len ns (l ++ [n])
      rw [List.length_append, List.length_singleton] at this
      omega
theorem step_Reach.cellb {w w' : World} (h : Below w.heap.size w w') {a : Addr} {v : Value} (hc : w.cell? a = some v) : w'.cell? a = some v := by
  rw [h.cell (World.block_lt_of_cell? w a hc)]
  exact hc
theorem step_Reach.small_at {ns : List Int} (h : step_Reach.small ns = true) {q : Nat} (hq : q < ns.length) : 0 ≤ ns[q] ∧ ns[q] ≤ 1000000 := by
  have := List.all_eq_true.mp h _ (List.getElem_mem hq)
  exact of_decide_eq_true this
set_option maxHeartbeats 8000000 in
set_option maxRecDepth 100000 in
theorem step_Reach.calls (k : Nat) (A0_0 : Option Addr) (c0_0 : Nat) (l0_0 : List (S32)) (A0_1 : Option Addr) (c0_1 : Nat) (l0_1 : List (S42)) (r1 : List Int) (r2 : Int) (w : World) (hr0_0 : Kd.C k32 w A0_0 l0_0.length l0_0) (hc0_0 : l0_0.length ≤ c0_0) (hr0_1 : Kd.C k42 w A0_1 l0_1.length l0_1) (hc0_1 : l0_1.length ≤ c0_1) (hG_ : Glob w) (h : step_Reach.f k l0_0 l0_1 = some (r1, r2)) :
    Calls Tryd.prog 27 #[.agg #[.slice A0_0 l0_0.length c0_0, .slice A0_1 l0_1.length c0_1]] w fun e w' => ∃ v0_ : Value, e = .returned (.tuple #[v0_, .int .i64 r2]) ∧ Kd.R (Kd.int .i64) 3 w' w.heap.size (fun _ => True) v0_ r1 ∧ Below w.heap.size w w' := by
  have R0 := Aside0.mk hr0_0
  have L0 := Aside0.mk hc0_0
  have R1 := Aside0.mk hr0_1
  have L1 := Aside0.mk hc0_1
  have GL := Aside0.mk hG_
  have hu29 := Tryd.underlying29
  clear hr0_0 hc0_0 hr0_1 hc0_1 hG_
  unfold step_Reach.f at h
  obtain ⟨⟨f1, f2⟩, hf, h⟩ := Option.bind_eq_some_iff.mp h
  have HF := Aside0.mk hf
  clear hf
  simp only at h
  by_cases c0 : f2 = 0
  · rw [if_pos c0] at h
    subst c0
    by_cases c1 : 0 ≤ f1 ∧ f1 ≤ 1000000
    · rw [if_pos c1] at h
      obtain ⟨L, hgo, h⟩ := Option.bind_eq_some_iff.mp h
      simp only [Option.some.injEq, Prod.mk.injEq] at h
      obtain ⟨rfl, rfl⟩ := h
      have HGO := Aside0.mk hgo
      have HK1 := Aside0.mk (step_Reach.key c1.1 c1.2)
      have info3 := (by kernel_rfl : (Tryd.prog.info? 3).map (fun i => (i.zero, i.size, i.bytes)) = some (some (.int .i64 0), 1, 8))
      have hmm := @run_makeMap Tryd.prog
      have hz75 : ∀ w : World, (zeroValue 75).run Tryd.prog w = .ok (.agg #[]) w := fun w => by kernel_rfl
      clear hgo c1
      go_enter Tryd.func27, Tryd.ntmps27
      go_upto_region 4 with (first | ((with_reducible refine gate_dst (N := 1) rfl ?_); go_must (refine box_event ?hg (N := 1) ?hd (cs := #[.slice A0_0 l0_0.length c0_0, .slice A0_1 l0_1.length c0_1]) (t := 29) ?hr ?_; (case hd => rfl); (case hg => rfl); (case hr => first | (go_simp; done) | (go_simp; rfl)); intro g1 hg w1 hbox hb; have K1 := Aside0.mk hbox; have B1 := Aside0.mk hb; clear hb hbox hg; have hz0 : w1.cell? ⟨g1, 0, none⟩ = some (.slice A0_0 l0_0.length c0_0) := (blk_cell K1.out 0).trans rfl; have hz1 : w1.cell? ⟨g1, 1, none⟩ = some (.slice A0_1 l0_1.length c0_1) := (blk_cell K1.out 1).trans rfl)) | (go_at_call 21; go_must (refine (model_First.calls k _ _ l0_0 _ _ l0_1 _ _ _ (Kd.C_below R0.out B1.out) L0.out (Kd.C_below R1.out B1.out) L1.out (Glob.below GL.out B1.out) HF.out).mono ?_; rintro e w2 ⟨rfl, hb⟩; have K12 := Aside0.mk (blk_below K1.out hb); have B2 := Aside0.mk (below_step B1.out hb); clear hb)))
      go_upto_region 5 with (first | ((with_reducible refine gate_insert' (t := 76) (m := .tmp 23) (x := .tmp 24) (v := .tmp 25) rfl ?_); go_must (refine wpList_insert_own _ rfl (.tmp 23) (.tmp 24) (.tmp 25) 76 rfl 3 75 step_Reach.law Tryd.underlying76 unitElem w2.heap.size 0 (step_Reach.set []) rfl (World.ownsMap_made _ _ _ _) (by unfold maxLen; omega) (.int .i64 f1) (.agg #[]) (.int .i64 f1) rfl rfl HK1.out (.agg []) [] unitElem_mk ?_; intro w3 hown3 hgrow3; have O3 := Aside0.mk hown3; have B3 := Aside0.mk ((below_alloc B2.out _).grown hgrow3 (by rw [World.size_alloc]; exact Nat.le_trans B2.out.size (Nat.le_succ _)) (fun k hk => by cases hk; exact B2.out.size)); have S3 := Aside0.mk (show w2.heap.size < w3.heap.size from Nat.lt_of_lt_of_le (by rw [World.size_alloc]; omega) hgrow3.size); have K13 := Aside0.mk (blk_grown (blk_below K12.out (below_alloc (Below.refl _ _) _)) hgrow3 (fun e => by injection e with e; have := (Array.getElem?_eq_some_iff.1 K12.out).1; omega)); clear hown3 hgrow3)))
      go_wp2_with (first | ((with_reducible refine gate_dst (N := 28) rfl ?_); go_must (refine Kd.R_lit (Kd.int .i64) (w0 := w) w.heap.size 3 ?hg (N := 28) ?hd (xs := [f1]) (inner := [.int .i64 f1]) (ok := fun _ => True) (okp := fun _ => True) ?hr ?hp (fun _ hk => hk) trivial B3.out (below_size B3.out) (by simp) ?_; (case hd => rfl); (case hg => rfl); (case hr => first | (go_simp; done) | (go_simp; rfl)); (case hp => exact Reps.one (show Kd.M (Kd.int .i64) _ _ _ f1 [.int .i64 f1] from rfl) (Reps.none _ _)); intro v4 w4 ho hb hg hn; have LO := Aside0.mk ho; have LB := Aside0.mk hb; have LG := Aside0.mk hg; clear ho hb hg hn)))
      have RA := Aside0.mk (step_Reach.At.start K13.out O3.out S3.out B3.out B2.out.size LO.out LB.out LG.out)
      have HGM := Aside0.mk B2.out.size
      clear K1 K12 K13 O3 B1 B3 S3
      generalize w2.heap.size = gm at *
      go_loopg [7, 8] k (fun kq v7 v8 wr => ∃ (i : Nat) (l : List Int), v8 = .int .i64 i ∧ i ≤ l.length ∧ Aside0 (step_Reach.go l0_0 l0_1 kq i l = some L) ∧ Aside0 (step_Reach.At w wr g1 gm #[.slice A0_0 l0_0.length c0_0, .slice A0_1 l0_1.length c0_1] v7 l 0 0))
      case atStart => exact ⟨0, [f1], rfl, Nat.zero_le _, HGO, RA⟩
      case round =>
        clear RA HGO B2 HF HK1 HGM
        obtain ⟨i, l, rfl, hil, HG, HA⟩ := hrel
        obtain ⟨Av, cv, ev⟩ := Kd.R_slice HA.out.rl
        subst ev
        cases gk with
        | zero => exact absurd HG.out (by simp [step_Reach.go])
        | succ gk =>
          have hg := HG.out
          rw [step_Reach.go] at hg
          clear HG
          by_cases c1 : (i : Int) < (l.length : Int)
          · rw [if_pos c1] at hg
            by_cases c3 : l.length ≤ 1000000
            · rw [if_pos c3] at hg
              obtain ⟨⟨ns, e9⟩, hn, hg⟩ := Option.bind_eq_some_iff.mp hg
              simp only at hg
              by_cases c2 : step_Reach.small ns = true ∧ ns.length ≤ 1000000
              · rw [if_pos c2] at hg
                have HN := Aside0.mk hn
                have HG := Aside0.mk hg
                have SM := Aside0.mk c2.1
                have NL := c2.2
                have IL := c3
                have c1b := decide_eq_true c1
                have c1n : decide (i < l.length) = true := decide_eq_true (by omega)
                obtain ⟨ad, eA, hx0⟩ := Kd.at_int (Kd.R_reads' HA.out.rl).2.2 (i : Int) (Int.natCast_nonneg i) c1
                subst eA
                have hi0 : (0 : Int) ≤ (i : Int) := Int.natCast_nonneg i
                have hy0 : wr.cell? ⟨g1, 0, none⟩ = some (.slice A0_0 l0_0.length c0_0) := (blk_cell HA.out.b1 0).trans rfl
                have hy1 : wr.cell? ⟨g1, 1, none⟩ = some (.slice A0_1 l0_1.length c0_1) := (blk_cell HA.out.b1 1).trans rfl
                have IL2 := Aside0.mk c1
                have NL2 := Aside0.mk c2.2
                have IL3 := Aside0.mk c3
                rw [Int.toNat_natCast] at hx0
                clear hg hn c2 c3 NL IL
                have HD := Aside0.mk (step_Reach.At.below HA.out (below_drew (Below.refl _ _)))
                have hx0d : wr.drew.cell? (ad.add i) = some (.int .i64 (rd l (i : Int))) := by simpa using hx0
                go_upto_region 9 with (fail)
                go_region_held3 (fun w' => w'.cell? ⟨g1, 0, none⟩ = some (.slice A0_0 l0_0.length c0_0) ∧ w'.cell? ⟨g1, 1, none⟩ = some (.slice A0_1 l0_1.length c0_1) ∧ w'.cell? (ad.add i) = some (.int .i64 (rd l (i : Int)))) (go_keep) ((go_at_call 24; go_must (refine (step_Next.calls gk _ _ l0_0 _ _ l0_1 (rd l (i : Int)) _ _ _ (Kd.C_below R0.out HD.out.bel) L0.out (Kd.C_below R1.out HD.out.bel) L1.out (Glob.below GL.out HD.out.bel) HN.out).mono ?_; rintro e w5 ⟨v9, rfl, ho, hb⟩; have HA2 := Aside0.mk (step_Reach.At.next HD.out hb); have HN2 := Aside0.mk (show Kd.R (Kd.int .i64) 3 w5 w.heap.size (fun k => wr.drew.heap.size ≤ k ∧ k < w5.heap.size) v9 ns from Kd.R_lower (Kd.R_mono (Kd.R_bound ho) (fun k hk => ⟨hk.2.1, hk.2.2.1⟩)) HD.out.bel.size); have hk0 : w5.cell? ⟨g1, 0, none⟩ = some (.slice A0_0 l0_0.length c0_0) := (blk_cell HA2.out.b1 0).trans rfl; have hk1 : w5.cell? ⟨g1, 1, none⟩ = some (.slice A0_1 l0_1.length c0_1) := (blk_cell HA2.out.b1 1).trans rfl; have hk2 := step_Reach.cellb hb hx0d; clear ho hb)))
                clear HA HD hx0 hx0d hy0 hy1 hk0 hk1 hk2 HN c1b c1n hi0
                generalize wr.drew.heap.size = lo at *
                generalize w5.heap.size = hi at *
                obtain ⟨A9, c9, e9_⟩ := Kd.R_slice HN2.out
                subst e9_
                go_wp2
                go_loopw [7, 46] (fun v7 v46 wb => ∃ (q : Nat) (l2 : List Int), v46 = .int .i64 q ∧ q ≤ ns.length ∧ Aside0 (step_Reach.add l2 (ns.drop q) = step_Reach.add l ns) ∧ Aside0 (step_Reach.At w wb g1 gm #[.slice A0_0 l0_0.length c0_0, .slice A0_1 l0_1.length c0_1] v7 l2 lo hi) ∧ Aside0 (Kd.R (Kd.int .i64) 3 wb w.heap.size (fun k => lo ≤ k ∧ k < hi) (.slice A9 ns.length c9) ns) ∧ Aside0 (l2.length ≤ 1000000 + q)) (fun _ v46 _ => ns.length - (intOf v46).toNat)
                case atStart => exact ⟨0, l, rfl, Nat.zero_le _, ⟨rfl⟩, HA2, HN2, ⟨by have := IL3.out; omega⟩⟩
                case round =>
                  clear HA2 HN2
                  obtain ⟨q, l2, rfl, hq, HE, HB, HM, HL⟩ := hrel
                  have hL2 : l2.length ≤ 2000000 := by have := HL.out; have := NL2.out; omega
                  have LL := Aside0.mk hL2
                  have hnl := NL2.out
                  obtain ⟨A2, c2_, ev⟩ := Kd.R_slice HB.out.rl
                  subst ev
                  by_cases d1 : q < ns.length
                  · have d1b : decide ((q : Int) < (ns.length : Int)) = true := decide_eq_true (by omega)
                    have d1n : decide (q < ns.length) = true := decide_eq_true d1
                    obtain ⟨ad9, eA, hx0⟩ := Kd.at_int (Kd.R_reads' HM.out).2.2 (q : Int) (Int.natCast_nonneg q) (by omega)
                    subst eA
                    rw [Int.toNat_natCast] at hx0
                    have hsm := step_Reach.small_at SM.out d1
                    have hrd : rd ns (q : Int) = ns[q] := by
                      unfold Go.Proofs.YteennleoieafiaaDoorW.PrintWords.rd
                      rw [Int.toNat_natCast, List.getD_eq_getElem?_getD, List.getElem?_eq_getElem d1]
                      rfl
                    have he := HE.out
                    rw [List.drop_eq_getElem_cons d1, step_Reach.add_cons] at he
                    rw [hrd] at hx0
                    generalize ns[q] = n at *
                    have HKN := Aside0.mk (step_Reach.key hsm.1 hsm.2)
                    have hhas := step_Reach.has_set l2 n
                    have D1 := Aside0.mk d1
                    clear hsm hrd HE hL2
                    by_cases d2 : n ∈ l2
                    · rw [if_pos d2] at he
                      rw [decide_eq_true d2] at hhas
                      have HE := Aside0.mk he
                      clear he d2
                      go_wp2_with (first | (at_lookup; go_must (refine wpList_lookup_own_unit _ rfl (.tmp 51) (.tmp 52) 76 rfl 3 75 step_Reach.law Tryd.underlying76 (hz75 _) gm _ (step_Reach.set l2) rfl HB.out.mp (.int .i64 n) (.int .i64 n) rfl HKN.out ?_)) | ((with_reducible refine gate_dst (N := 13) rfl ?_); go_must (refine box_event ?hg (N := 13) ?hd (cs := #[]) (t := 75) ?hr ?_; (case hd => rfl); (case hg => rfl); (case hr => first | (go_simp; done) | (go_simp; rfl)); intro g7 hg w7 hbox hb; have HB7 := Aside0.mk (step_Reach.At.below HB.out hb); have HM7 := Aside0.mk (Kd.R_below HM.out hb); clear hb hbox hg)))
                      go_roundw
                      case rel => exact ⟨q + 1, l2, by go_num, by have := D1.out; omega, HE, HB7, HM7, ⟨by have := HL.out; omega⟩⟩
                      case measure => have := D1.out; simp [intOf]; omega
                    · rw [if_neg d2] at he
                      rw [decide_eq_false d2] at hhas
                      have HE := Aside0.mk he
                      clear he d2
                      go_wp2_with (first | (at_lookup; go_must (refine wpList_lookup_own_unit _ rfl (.tmp 51) (.tmp 52) 76 rfl 3 75 step_Reach.law Tryd.underlying76 (hz75 _) gm _ (step_Reach.set l2) rfl HB.out.mp (.int .i64 n) (.int .i64 n) rfl HKN.out ?_)) | ((with_reducible refine gate_dst (N := 13) rfl ?_); go_must (refine box_event ?hg (N := 13) ?hd (cs := #[]) (t := 75) ?hr ?_; (case hd => rfl); (case hg => rfl); (case hr => first | (go_simp; done) | (go_simp; rfl)); intro g7 hg w7 hbox hb; have HB7 := Aside0.mk (step_Reach.At.below HB.out hb); have HM7 := Aside0.mk (Kd.R_below HM.out hb); clear hb hbox hg)) | (at_mapUpdate; go_must (refine wpList_mapUpdate_own _ rfl (.tmp 58) (.tmp 59) (.tmp 60) 76 rfl 3 75 step_Reach.law Tryd.underlying76 unitElem gm _ (step_Reach.set l2) rfl HB7.out.mp (by have := LL.out; unfold maxLen; omega) (.int .i64 n) (.agg #[]) (.int .i64 n) rfl rfl HKN.out (.agg []) [] unitElem_mk ?_; intro w8 hown8 hgrow8; have HP8 := Aside0.mk (step_Reach.At.put HB7.out hown8 hgrow8); have HM8 := Aside0.mk (R_map HM7.out HB7.out.mp hgrow8); clear hown8 hgrow8)) | ((with_reducible refine gate_builtin (b := .append) (xs := #[.tmp 61, .tmp 63]) rfl ?_); at_builtin; go_must (refine Kd.R_append (Kd.int .i64) (w0 := w) w.heap.size rfl (.tmp 61) (.tmp 63) 48 3 (.int .i64 0) 8 rfl Tryd.underlying48 info3 rfl (by decide) (by omega) (.slice A2 l2.length c2_) l2 n [.int .i64 n] (fun k => k < lo ∨ hi ≤ k) (fun _ => False) rfl rfl rfl (fun _ hk => hk.elim) (fun k hk => Or.inr (Nat.le_trans HP8.out.hib hk)) HP8.out.rl HP8.out.bel (below_size HP8.out.bel) (by have := LL.out; omega) ?_; intro v9_ w9 ho hb hg hat; have HQ := Aside0.mk (step_Reach.At.push HP8.out ho hb hg); have HM9 := Aside0.mk (Kd.R_grown HM8.out hg (fun k hk e => by have := HP8.out.rl.1 k e.symm; omega)); clear ho hb hg hat)))
                      go_roundw
                      case rel => exact ⟨q + 1, l2 ++ [n], by go_num, by have := D1.out; omega, HE, HQ, HM9, ⟨by have := HL.out; rw [List.length_append, List.length_singleton]; omega⟩⟩
                      case measure => have := D1.out; simp [intOf]; omega
                  · obtain rfl : q = ns.length := by omega
                    have d1b : decide ((ns.length : Int) < (ns.length : Int)) = false := decide_eq_false (by omega)
                    have d1n : decide (ns.length < ns.length) = false := decide_eq_false (by omega)
                    have he := HE.out
                    rw [List.drop_length] at he
                    have he2 : l2 = step_Reach.add l ns := he
                    have HE2 := Aside0.mk he2
                    clear he he2 HE d1
                    have b1 := IL2.out
                    have b3 := IL3.out
                    go_wp2
                    go_roundg gk
                    case measure => omega
                    case rel => exact ⟨i + 1, l2, by go_num, by have h1 := IL2.out; have h2 := step_Reach.add_len ns l; rw [← HE2.out] at h2; omega, ⟨by rw [HE2.out]; exact HG.out⟩, ⟨HB.out.again⟩⟩
              · rw [if_neg c2] at hg
                exact absurd hg (by simp)
            · rw [if_neg c3] at hg
              exact absurd hg (by simp)
          · rw [if_neg c1] at hg
            have c1b := decide_eq_false c1
            have c1n : decide (i < l.length) = false := decide_eq_false (by omega)
            by_cases c3 : l.length ≤ 1000000
            · rw [if_pos c3] at hg
              obtain rfl := Option.some.inj hg
              have LQ := Aside0.mk c3
              clear hg c1 c3
              go_wp2_with (first | (go_at_call 37; go_must (refine (sort_own (A := Av) (c := cv) (l := l) HA.out.rl HA.out.bel (by have := LQ.out; omega)).mono ?_; rintro e w6 ⟨rfl, ho, hb, hg⟩; have HS := Aside0.mk ho; have BS := Aside0.mk hb; clear ho hb hg)))
              go_ret2
              exact ⟨_, rfl, Kd.R_mono HS.out (fun _ _ => trivial), BS.out⟩
            · rw [if_neg c3] at hg
              exact absurd hg (by simp)
    · rw [if_neg c1] at h
      exact absurd h (by simp)
  · rw [if_neg c0] at h
    have c0b : (f2 != 0) = true := by simpa using c0
    simp only [Option.some.injEq, Prod.mk.injEq] at h
    obtain ⟨rfl, rfl⟩ := h
    clear c0
    go_enter Tryd.func27, Tryd.ntmps27
    go_wp2_with (first | ((with_reducible refine gate_dst (N := 1) rfl ?_); go_must (refine box_event ?hg (N := 1) ?hd (cs := #[.slice A0_0 l0_0.length c0_0, .slice A0_1 l0_1.length c0_1]) (t := 29) ?hr ?_; (case hd => rfl); (case hg => rfl); (case hr => first | (go_simp; done) | (go_simp; rfl)); intro g1 hg w1 hbox hb; have K1 := Aside0.mk hbox; have B1 := Aside0.mk hb; clear hb hbox hg; have hz0 : w1.cell? ⟨g1, 0, none⟩ = some (.slice A0_0 l0_0.length c0_0) := (blk_cell K1.out 0).trans rfl; have hz1 : w1.cell? ⟨g1, 1, none⟩ = some (.slice A0_1 l0_1.length c0_1) := (blk_cell K1.out 1).trans rfl)) | (go_at_call 21; go_must (refine (model_First.calls k _ _ l0_0 _ _ l0_1 _ _ _ (Kd.C_below R0.out B1.out) L0.out (Kd.C_below R1.out B1.out) L1.out (Glob.below GL.out B1.out) HF.out).mono ?_; rintro e w2 ⟨rfl, hb⟩; have K12 := Aside0.mk (blk_below K1.out hb); have B2 := Aside0.mk (below_step B1.out hb); clear hb)))
    go_ret2
    exact ⟨_, rfl, Kd.R_nil _ _ _ _ _, B2.out⟩

end Go.Proofs.YteennleoieafiaaDoor.P
end
