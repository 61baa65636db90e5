-- PACKED by pack.py of this repo: FMachDo
import Derived.WalkSpells
import Derived.WalkLawsBesides
import Derived.MapKept
import Derived.Maps.Own
import Derived.Maps.OwnOps
import Derived.Test.YtbokbbcoekeoaaaDoorJ1
import Derived.Test.YtbokbbcoekeoaaaDoorJ2
section
namespace Go.Proofs.YtbokbbcoekeoaaaDoor.P
open Go.RowKit Go.Proofs.YtbokbbcoekeoaaaDoorW.PrintWords Go.Proofs.YtbokbbcoekeoaaaDoorW.PrintLast Go.Proofs.YtbokbbcoekeoaaaDoorW.PrintMore Go.Proofs.YtbokbbcoekeoaaaDoor.G
attribute [local go_sem] max2_int min2_int max_two min_two max_three min_three max_four min_four
set_option linter.unusedVariables false
set_option linter.unusedSimpArgs false

--IMPORT FMachPop
--IMPORT Derived.WalkSpells
--IMPORT Derived.WalkLawsBesides
--IMPORT Derived.MapKept
--IMPORT Derived.Maps.Own
--IMPORT Derived.Maps.OwnOps
/-- A map with whole numbers as keys, in memory. -/
def MapAt (w : World) (r : Nat) (kvs : List (Int × Value)) : Prop :=
 ∃ es clock, w.heap[r]? = some (.map es clock) ∧ es.toList.map (fun e => (e.key, e.val)) = kvs.map (fun p => (Value.int .i64 p.1, p.2))
theorem MapAt.below {w w' : World} {r : Nat} {kvs : List (Int × Value)} (h : MapAt w r kvs) (hb : Below w.heap.size w w') : MapAt w' r kvs := by
 obtain ⟨es, clock, h1, h2⟩ := h
 exact ⟨es, clock, (hb.block _ (Array.getElem?_eq_some_iff.1 h1).1).trans h1, h2⟩
theorem MapAt.made (w : World) : MapAt (w.alloc (.map #[] 0)) w.heap.size [] := ⟨_, _, (Go.MapKept.heap_alloc w _).1, rfl⟩
theorem mapAt_find {kt : List MapEntry} {kvs : List (Int × Value)} (h : kt.map (fun e => (e.key, e.val)) = kvs.map (fun p => (Value.int .i64 p.1, p.2))) (k : Int) (i : Nat) :
  (kvs.lookup k = none → Instr.findNow (.int .i64) (.int .i64 k) kt i = some none) ∧ ∀ v, kvs.lookup k = some v → ∃ j, Instr.findNow (.int .i64) (.int .i64 k) kt i = some (some (j, v)) := by
 induction kt generalizing kvs i with
 | nil =>
  cases kvs with
  | nil => exact ⟨fun _ => rfl, fun v hv => by simp at hv⟩
  | cons p ps => simp at h
 | cons e es ih =>
  cases kvs with
  | nil => simp at h
  | cons p ps =>
   rw [List.map_cons, List.map_cons, List.cons.injEq, Prod.mk.injEq] at h
   obtain ⟨⟨hk, hv⟩, hr⟩ := h
   have := ih hr (i + 1)
   unfold Instr.findNow
   rw [hk]
   by_cases hx : k = p.1
   ·
    subst hx
    rw [List.lookup_cons, beq_self_eq_true]
    refine ⟨fun q => by simp at q, fun v q => ⟨i, ?_⟩⟩
    replace q : some p.2 = some v := q
    obtain rfl := Option.some.inj q
    simp [Instr.sameNow, hv]
   ·
    have hb : (k == p.1) = false := beq_eq_false_iff_ne.mpr hx
    have e1 : List.lookup k (p :: ps) = List.lookup k ps := by rw [List.lookup_cons, hb]
    rw [e1]
    simp only [Instr.sameNow, if_true, hb]
    exact this
theorem gate_insert {P : Program} {w : World} {ops : Array Oper} {rest : List Oper} {o : Oper} {a : Act} {Q : Exit → Act → World → Prop} {t : TypeId} {m x v : Operand} (_h : o.op = Op.insert t m x v) (h : wpList P ops Q (o :: rest) a w) : wpList P ops Q (o :: rest) a w := h
theorem wpList_insert_at {P : Program} (w : World) {ops : Array Oper} {rest : List Oper} {o : Oper} {a : Act} {Q : Exit → Act → World → Prop}
  (hg : o.guard = none) (m x v : Operand) (t : TypeId) (hop : o.op = Op.insert t m x v) (e : TypeId) (k : TypeId) (ht : P.underlying t = some (.map k e)) (hkt : P.underlying k = some (.int .i64))
  (r : Nat) (kvs : List (Int × Value)) (key : Int) (val : Value) (hm : a.eval m = .map (some r)) (hx : a.eval x = .int .i64 key) (hv : a.eval v = val) (hat : MapAt w r kvs) (hnew : kvs.lookup key = none)
  (hK : ∀ w', MapAt w' r (kvs ++ [(key, val)]) → (∀ b, b ≤ r → Below b w w') → wpList P ops Q rest (a.put o.dst undef) w') :
  wpList P ops Q (o :: rest) a w := by
 refine wpList_plain hg fun K' hK' => ?_
 obtain ⟨es, clock, hb, hes⟩ := hat
 have hf := (mapAt_find hes key 0).1 hnew
 unfold Oper.wp
 simp [execOp, hop, hm, hx, hv, Instr.mapUpdate, run_underlying ht, Go.MapKept.run_getObj_map hb, Go.MapKept.run_checkKey hkt (show Go.MapKept.IsKey (.int .i64) (.int .i64 key) from rfl), Go.MapKept.run_findKey hkt hf, Go.MapKept.run_setObj_map _ hb, Result.andThen]
 refine hK' _ _ (hK _ ⟨_, _, (Go.MapKept.heap_set (o' := .map (es.push { key := .int .i64 key, val := val, born := clock }) (clock + 1)) hb).1, ?_⟩ fun b hbr => ?_)
 ·
  simp [hes]
 ·
  exact ⟨rfl, rfl, rfl, by simp, fun k hk => (Go.MapKept.heap_set hb).2 k (by omega)⟩
theorem wpList_lookup_at {P : Program} (w : World) {ops : Array Oper} {rest : List Oper} {o : Oper} {a : Act} {Q : Exit → Act → World → Prop}
  (hg : o.guard = none) (m x : Operand) (t : TypeId) (hop : o.op = Op.lookup t m x false) (e : TypeId) (k : TypeId) (ht : P.underlying t = some (.map k e)) (hkt : P.underlying k = some (.int .i64))
  (r : Nat) (kvs : List (Int × Value)) (key : Int) (val : Value) (hm : a.eval m = .map (some r)) (hx : a.eval x = .int .i64 key) (hat : MapAt w r kvs) (hin : kvs.lookup key = some val)
  (hK : wpList P ops Q rest (a.put o.dst val) w) :
  wpList P ops Q (o :: rest) a w := by
 refine wpList_plain hg fun K' hK' => ?_
 obtain ⟨es, clock, hb, hes⟩ := hat
 obtain ⟨j, hf⟩ := (mapAt_find hes key 0).2 val hin
 unfold Oper.wp
 simp [execOp, hop, hm, hx, Instr.lookup, run_underlying ht, Go.MapKept.run_getObj_map hb, Go.MapKept.run_checkKey hkt (show Go.MapKept.IsKey (.int .i64) (.int .i64 key) from rfl), Go.MapKept.run_findKey hkt hf, Result.andThen]
 exact hK' _ _ hK
theorem mach_do1.calls (g5 g6 : Nat) (a b : Int) (w : World) (h5 : w.cell? ⟨g5, 0, none⟩ = some (.int .i64 a)) (h6 : w.cell? ⟨g6, 0, none⟩ = some (.int .i64 b)) :
  Calls Tryd.prog 102 #[.pointer (some ⟨g5, 0, none⟩), .pointer (some ⟨g6, 0, none⟩)] w fun e w' => e = .returned (.int .i64 (wrap64 (a + b))) ∧ w' = w := by
 go_enter Tryd.func102, Tryd.ntmps102
 go_wp2
 go_ret
 exact ⟨rfl, rfl⟩
theorem mach_do2.calls (g5 g6 : Nat) (a b : Int) (w : World) (h5 : w.cell? ⟨g5, 0, none⟩ = some (.int .i64 a)) (h6 : w.cell? ⟨g6, 0, none⟩ = some (.int .i64 b)) :
  Calls Tryd.prog 103 #[.pointer (some ⟨g5, 0, none⟩), .pointer (some ⟨g6, 0, none⟩)] w fun e w' => e = .returned (.int .i64 (wrap64 (a - b))) ∧ w' = w := by
 go_enter Tryd.func103, Tryd.ntmps103
 go_wp2
 go_ret
 exact ⟨rfl, rfl⟩
theorem mach_do3.calls (g5 g6 : Nat) (a b : Int) (w : World) (h5 : w.cell? ⟨g5, 0, none⟩ = some (.int .i64 a)) (h6 : w.cell? ⟨g6, 0, none⟩ = some (.int .i64 b)) :
  Calls Tryd.prog 104 #[.pointer (some ⟨g5, 0, none⟩), .pointer (some ⟨g6, 0, none⟩)] w fun e w' => e = .returned (.int .i64 (wrap64 (a * b))) ∧ w' = w := by
 go_enter Tryd.func104, Tryd.ntmps104
 go_wp2
 go_ret
 exact ⟨rfl, rfl⟩
theorem mach_flag4.calls (v : Bool) (w : World) : Calls Tryd.prog 106 #[.bool v] w fun e w' => e = .returned (.int .i64 (if v then 1 else 0)) ∧ w' = w := by
 cases v
 ·
  go_enter Tryd.func106, Tryd.ntmps106
  go_wp2
  go_ret
  exact ⟨rfl, rfl⟩
 ·
  go_enter Tryd.func106, Tryd.ntmps106
  go_wp2
  go_ret
  exact ⟨rfl, rfl⟩
theorem mach_do4.calls (g5 g6 : Nat) (a b : Int) (w : World) (h5 : w.cell? ⟨g5, 0, none⟩ = some (.int .i64 a)) (h6 : w.cell? ⟨g6, 0, none⟩ = some (.int .i64 b)) :
  Calls Tryd.prog 105 #[.pointer (some ⟨g5, 0, none⟩), .pointer (some ⟨g6, 0, none⟩)] w fun e w' => e = .returned (.int .i64 (if a = b then 1 else 0)) ∧ w' = w := by
 have hv : (if a = b then (1 : Int) else 0) = if ((a == b)) = true then 1 else 0 := by
  by_cases c : a = b
  ·
   rw [if_pos c, if_pos (beq_iff_eq.mpr c)]
  ·
   rw [if_neg c, if_neg (by rw [beq_eq_false_iff_ne.mpr c]; decide)]
 go_enter Tryd.func105, Tryd.ntmps105
 go_wp2_with (go_at_call 106; go_must (refine (mach_flag4.calls _ _).mono ?_; rintro e w' ⟨rfl, hww⟩; obtain rfl := hww.symm))
 all_goals go_ret
 all_goals exact ⟨by first | rfl | (simp [*]; done) | (rw [hv]; simp [*]; done), rfl⟩
theorem mach_do5.calls (g5 g6 : Nat) (a b : Int) (w : World) (h5 : w.cell? ⟨g5, 0, none⟩ = some (.int .i64 a)) (h6 : w.cell? ⟨g6, 0, none⟩ = some (.int .i64 b)) :
  Calls Tryd.prog 107 #[.pointer (some ⟨g5, 0, none⟩), .pointer (some ⟨g6, 0, none⟩)] w fun e w' => e = .returned (.int .i64 (if a < b then 1 else 0)) ∧ w' = w := by
 have hv : (if a < b then (1 : Int) else 0) = if (decide (a < b)) = true then 1 else 0 := by
  by_cases c : a < b
  ·
   rw [if_pos c, if_pos (decide_eq_true c)]
  ·
   rw [if_neg c, if_neg (by rw [decide_eq_false c]; decide)]
 go_enter Tryd.func107, Tryd.ntmps107
 go_wp2_with (go_at_call 106; go_must (refine (mach_flag4.calls _ _).mono ?_; rintro e w' ⟨rfl, hww⟩; obtain rfl := hww.symm))
 all_goals go_ret
 all_goals exact ⟨by first | rfl | (simp [*]; done) | (rw [hv]; simp [*]; done), rfl⟩
theorem mach_do6.calls (g5 g6 : Nat) (a b : Int) (w : World) (h5 : w.cell? ⟨g5, 0, none⟩ = some (.int .i64 a)) (h6 : w.cell? ⟨g6, 0, none⟩ = some (.int .i64 b)) :
  Calls Tryd.prog 108 #[.pointer (some ⟨g5, 0, none⟩), .pointer (some ⟨g6, 0, none⟩)] w fun e w' => e = .returned (.int .i64 (bits .and .i64 a b)) ∧ w' = w := by
 go_enter Tryd.func108, Tryd.ntmps108
 go_wp2
 go_ret
 exact ⟨rfl, rfl⟩
theorem mach_do7.calls (g5 g6 : Nat) (a b : Int) (w : World) (h5 : w.cell? ⟨g5, 0, none⟩ = some (.int .i64 a)) (h6 : w.cell? ⟨g6, 0, none⟩ = some (.int .i64 b)) :
  Calls Tryd.prog 109 #[.pointer (some ⟨g5, 0, none⟩), .pointer (some ⟨g6, 0, none⟩)] w fun e w' => e = .returned (.int .i64 (bits .or .i64 a b)) ∧ w' = w := by
 go_enter Tryd.func109, Tryd.ntmps109
 go_wp2
 go_ret
 exact ⟨rfl, rfl⟩
def mach_bin (k a b : Int) : Int :=
 if k = 3 then wrap64 (a + b) else if k = 4 then wrap64 (a - b) else if k = 5 then wrap64 (a * b) else if k = 6 then (if a = b then 1 else 0) else if k = 7 then (if a < b then 1 else 0) else if k = 8 then bits .and .i64 a b else bits .or .i64 a b
/-- What an op makes of the values on the stack (the last one first), and what it leaves. -/
def mach_val (env : List Int) (op : S72) (st : List Int) : Option (Int × List Int) :=
 if op.f0 = 1 then some (op.f1, st)
 else if op.f0 = 2 then (if 0 ≤ op.f1 ∧ op.f1 < (env.length : Int) then some (rd env op.f1, st) else none)
 else if op.f0 = 11 then some (1, st)
 else if op.f0 = 12 then some (0, st)
 else if op.f0 = 10 then (match st with | y :: ys => some (wrap64 (1 - y), ys) | [] => none)
 else if 3 ≤ op.f0 ∧ op.f0 ≤ 9 then (match st with | a :: b :: ys => some (mach_bin op.f0 a b, ys) | _ => none)
 else none
/-- Too great or too small. -/
def mach_over (n : Int) : Prop := n < -1000000 ∨ 1000000 < n
set_option maxHeartbeats 8000000 in
set_option maxRecDepth 100000 in
theorem mach_do.calls (w0 : World) (A : Option Addr) (c : Nat) (env : List Int) (g : Nat) (hr : Kd.C (Kd.int .i64) w0 A env.length env) (bg : w0.heap.size ≤ g) (op : S72) (st : List Int) (n : Int) (ys : List Int) (w : World) (hv : MachAt w0 w g A env.length c st.reverse) (h : mach_val env op st = some (n, ys)) (hl : ys.length < 8796093022208) :
  Calls Tryd.prog 82 #[.pointer (some ⟨g, 0, none⟩), .agg #[.int .i64 op.f0, .int .i64 op.f1]] w fun e w' =>
   (mach_over n ∧ e = .panicked [{ v := .iface 38 (.int .i64 8), recovered := false }] ∧ Below w0.heap.size w0 w') ∨ (¬ mach_over n ∧ e = .returned (.tuple #[]) ∧ MachAt w0 w' g A env.length c (n :: ys).reverse) := by
 have info := (by kernel_rfl : (Tryd.prog.info? 3).map (fun i => (i.zero, i.size, i.bytes)) = some (some (.int .i64 0), 1, 8))
 have hmm := @run_makeMap Tryd.prog
 have hmf : ∀ (fn : Fn) (first cap : Array Value) (w : World), (Instr.makeFunc fn first cap).run Tryd.prog w = .ok (.func fn first cap) w := fun _ _ _ _ => rfl
 have R0 := Aside0.mk hr
 have BG := Aside0.mk bg
 have HV := Aside0.mk hv
 have LM := Aside0.mk hl
 clear hr bg hv hl
 obtain ⟨k, v⟩ := op
 unfold mach_val at h
 simp only at h
 have htail : (mach_over n ∧ decide (n < -1000000) = true) ∨ (mach_over n ∧ decide (n < -1000000) = false ∧ decide (n > 1000000) = true) ∨ (¬ mach_over n ∧ decide (n < -1000000) = false ∧ decide (n > 1000000) = false) := by
  by_cases h1 : n < -1000000
  ·
   exact .inl ⟨.inl h1, decide_eq_true h1⟩
  ·
   by_cases h2 : 1000000 < n
   ·
    exact .inr (.inl ⟨.inr h2, decide_eq_false h1, decide_eq_true h2⟩)
   ·
    exact .inr (.inr ⟨fun h => h.elim h1 h2, decide_eq_false h1, decide_eq_false h2⟩)
 by_cases k1 : k = 1
 ·
  subst k1
  rw [if_pos rfl] at h
  obtain ⟨rfl, rfl⟩ := Prod.mk.inj (Option.some.inj h)
  clear h
  rcases htail with ⟨ov, t1⟩ | ⟨ov, t1, t2⟩ | ⟨ov, t1, t2⟩
  all_goals have OV := Aside0.mk ov
  all_goals clear ov
  all_goals go_enter Tryd.func82, Tryd.ntmps82
  all_goals go_wp2_with (first | ((with_reducible refine gate_dst (N := 3) rfl ?_); go_must (refine box_event ?hg (N := 3) ?hd (cs := #[.int .i64 1, .int .i64 v]) (t := 72) ?hr ?_; (case hd => rfl); (case hg => rfl); (case hr => first | (go_simp; done) | (go_simp; rfl)); intro g3 hg w2 hbox hb; have K3 := Aside0.mk hbox; have N3 := Aside0.mk (show g3 ≠ g by rw [hg]; exact Nat.ne_of_gt HV.out.lt); have HV2 := Aside0.mk (MachAt.below HV.out hb); clear hb hbox hg; have h20 : w2.cell? ⟨g3, 0, none⟩ = some (.int .i64 1) := (blk_cell K3.out 0).trans rfl; have h21 : w2.cell? ⟨g3, 1, none⟩ = some (.int .i64 v) := (blk_cell K3.out 1).trans rfl; obtain ⟨A6, cp6, hbk6, hro6, hb6⟩ := HV2.out.parts; have BK := Aside0.mk hbk6; have RO := Aside0.mk hro6; have HB := Aside0.mk hb6; clear hbk6 hro6 hb6; have hc6 : w2.cell? ⟨g, 0, none⟩ = some (.slice A6 st.length cp6) := (blk_cell BK.out 0).trans rfl; have hf6 := blk_frozen BK.out 0)) | ((with_reducible refine gate_builtin (b := .append) (xs := #[.tmp 60, .tmp 62]) rfl ?_); at_builtin; go_must (refine Kd.R_append (Kd.int .i64) (w0 := w0) w0.heap.size rfl (.tmp 60) (.tmp 62) 43 3 (.int .i64 0) 8 rfl Tryd.underlying43 info rfl (by decide) (by omega) (.slice A6 st.length cp6) st.reverse (v) [.int .i64 (v)] (fun _ => True) (fun _ => False) rfl rfl ?aP (fun _ hk => hk.elim) ?aF ?aO ?aB ?aS ?aL ?_; (case aP => exact rfl); (case aB => exact HB.out); (case aF => exact (fun _ _ => trivial)); (case aO => exact RO.out); (case aS => exact below_size HB.out); (case aL => have := LM.out; rw [List.length_reverse]; omega); intro v1 w8 ho hb hg hat; obtain ⟨A1, c1, rfl⟩ := Kd.R_slice ho; replace ho : Kd.R (Kd.int .i64) 3 w8 w0.heap.size (fun _ => True) (.slice A1 (st.length + 1) c1) (st.reverse ++ [v]) := (by rw [List.length_append, List.length_reverse] at ho; exact ho); have R1 := Aside0.mk ho; have HB8 := Aside0.mk hb; have K8 := Aside0.mk (blk_grown BK.out hg (Kd.R_ne RO.out BK.out (by decide))); clear ho hb hg hat; have hcz8 : w8.cell? ⟨g, 0, none⟩ = some (.slice A6 st.length cp6) := (blk_cell K8.out 0).trans rfl; have hfz8 := blk_frozen K8.out 0)))
  ·
   exact ⟨rfl, .inl ⟨OV.out, rfl, HB.out⟩⟩
  ·
   exact ⟨rfl, .inl ⟨OV.out, rfl, HB.out⟩⟩
  ·
   go_end0
   exact .inr ⟨OV.out, rfl, by rw [List.reverse_cons]; exact ⟨_, blk_put K8.out 0 _ rfl, Kd.R_set R1.out K8.out (by decide) _ _, HB8.out.setCell BG.out _⟩⟩
 rw [if_neg k1] at h
 by_cases k2 : k = 2
 ·
  subst k2
  rw [if_pos rfl] at h
  by_cases hvv : 0 ≤ v ∧ v < (env.length : Int)
  ·
   rw [if_pos hvv] at h
   obtain ⟨hv0, hv1⟩ := hvv
   obtain ⟨rfl, rfl⟩ := Prod.mk.inj (Option.some.inj h)
   clear h
   rcases htail with ⟨ov, t1⟩ | ⟨ov, t1, t2⟩ | ⟨ov, t1, t2⟩
   all_goals have OV := Aside0.mk ov
   all_goals clear ov
   all_goals go_enter Tryd.func82, Tryd.ntmps82
   all_goals go_wp2_with (first | ((with_reducible refine gate_dst (N := 3) rfl ?_); go_must (refine box_event ?hg (N := 3) ?hd (cs := #[.int .i64 2, .int .i64 v]) (t := 72) ?hr ?_; (case hd => rfl); (case hg => rfl); (case hr => first | (go_simp; done) | (go_simp; rfl)); intro g3 hg w2 hbox hb; have K3 := Aside0.mk hbox; have N3 := Aside0.mk (show g3 ≠ g by rw [hg]; exact Nat.ne_of_gt HV.out.lt); have HV2 := Aside0.mk (MachAt.below HV.out hb); clear hb hbox hg; have h20 : w2.cell? ⟨g3, 0, none⟩ = some (.int .i64 2) := (blk_cell K3.out 0).trans rfl; have h21 : w2.cell? ⟨g3, 1, none⟩ = some (.int .i64 v) := (blk_cell K3.out 1).trans rfl; obtain ⟨A6, cp6, hbk6, hro6, hb6⟩ := HV2.out.parts; have BK := Aside0.mk hbk6; have RO := Aside0.mk hro6; have HB := Aside0.mk hb6; clear hbk6 hro6 hb6; have hc6 : w2.cell? ⟨g, 0, none⟩ = some (.slice A6 st.length cp6) := (blk_cell BK.out 0).trans rfl; have hf6 := blk_frozen BK.out 0; obtain ⟨ad, eA, hx0⟩ := Kd.at_int (Kd.C_below R0.out HB.out) v hv0 hv1; have eA' := eA; clear eA; have hc7 : w2.cell? ⟨g, 1, none⟩ = some (.slice A env.length c) := (blk_cell BK.out 1).trans rfl)))
   all_goals go_quiet (fail)
   all_goals generalize hq : World.drewN w2 _ = w4
   all_goals have HV4 := Aside0.mk (show MachAt w0 w4 g A env.length c st.reverse by rw [← hq]; exact HV2.out.drewN _)
   all_goals clear hq hc6 hf6 BK RO HB
   all_goals obtain ⟨A6, cp6, hbk6, hro6, hb6⟩ := HV4.out.parts; have BK := Aside0.mk hbk6; have RO := Aside0.mk hro6; have HB := Aside0.mk hb6; clear hbk6 hro6 hb6; have hc6 : w4.cell? ⟨g, 0, none⟩ = some (.slice A6 st.length cp6) := (blk_cell BK.out 0).trans rfl; have hf6 := blk_frozen BK.out 0
   all_goals go_wp2_with (first | ((with_reducible refine gate_builtin (b := .append) (xs := #[.tmp 60, .tmp 62]) rfl ?_); at_builtin; go_must (refine Kd.R_append (Kd.int .i64) (w0 := w0) w0.heap.size rfl (.tmp 60) (.tmp 62) 43 3 (.int .i64 0) 8 rfl Tryd.underlying43 info rfl (by decide) (by omega) (.slice A6 st.length cp6) st.reverse (rd env v) [.int .i64 (rd env v)] (fun _ => True) (fun _ => False) rfl rfl ?aP (fun _ hk => hk.elim) ?aF ?aO ?aB ?aS ?aL ?_; (case aP => exact rfl); (case aB => exact HB.out); (case aF => exact (fun _ _ => trivial)); (case aO => exact RO.out); (case aS => exact below_size HB.out); (case aL => have := LM.out; rw [List.length_reverse]; omega); intro v1 w8 ho hb hg hat; obtain ⟨A1, c1, rfl⟩ := Kd.R_slice ho; replace ho : Kd.R (Kd.int .i64) 3 w8 w0.heap.size (fun _ => True) (.slice A1 (st.length + 1) c1) (st.reverse ++ [rd env v]) := (by rw [List.length_append, List.length_reverse] at ho; exact ho); have R1 := Aside0.mk ho; have HB8 := Aside0.mk hb; have K8 := Aside0.mk (blk_grown BK.out hg (Kd.R_ne RO.out BK.out (by decide))); clear ho hb hg hat; have hcz8 : w8.cell? ⟨g, 0, none⟩ = some (.slice A6 st.length cp6) := (blk_cell K8.out 0).trans rfl; have hfz8 := blk_frozen K8.out 0)))
   ·
    exact ⟨rfl, .inl ⟨OV.out, rfl, HB.out⟩⟩
   ·
    exact ⟨rfl, .inl ⟨OV.out, rfl, HB.out⟩⟩
   ·
    go_end0
    exact .inr ⟨OV.out, rfl, by rw [List.reverse_cons]; exact ⟨_, blk_put K8.out 0 _ rfl, Kd.R_set R1.out K8.out (by decide) _ _, HB8.out.setCell BG.out _⟩⟩
  ·
   rw [if_neg hvv] at h
   exact absurd h (by simp)
 rw [if_neg k2] at h
 by_cases k11 : k = 11
 ·
  subst k11
  rw [if_pos rfl] at h
  obtain ⟨rfl, rfl⟩ := Prod.mk.inj (Option.some.inj h)
  clear h
  rcases htail with ⟨ov, t1⟩ | ⟨ov, t1, t2⟩ | ⟨ov, t1, t2⟩
  ·
   exact absurd t1 (by decide)
  ·
   exact absurd t2 (by decide)
  all_goals have OV := Aside0.mk ov
  all_goals clear ov
  all_goals go_enter Tryd.func82, Tryd.ntmps82
  all_goals go_wp2_with (first | ((with_reducible refine gate_dst (N := 3) rfl ?_); go_must (refine box_event ?hg (N := 3) ?hd (cs := #[.int .i64 11, .int .i64 v]) (t := 72) ?hr ?_; (case hd => rfl); (case hg => rfl); (case hr => first | (go_simp; done) | (go_simp; rfl)); intro g3 hg w2 hbox hb; have K3 := Aside0.mk hbox; have N3 := Aside0.mk (show g3 ≠ g by rw [hg]; exact Nat.ne_of_gt HV.out.lt); have HV2 := Aside0.mk (MachAt.below HV.out hb); clear hb hbox hg; have h20 : w2.cell? ⟨g3, 0, none⟩ = some (.int .i64 11) := (blk_cell K3.out 0).trans rfl; have h21 : w2.cell? ⟨g3, 1, none⟩ = some (.int .i64 v) := (blk_cell K3.out 1).trans rfl; obtain ⟨A6, cp6, hbk6, hro6, hb6⟩ := HV2.out.parts; have BK := Aside0.mk hbk6; have RO := Aside0.mk hro6; have HB := Aside0.mk hb6; clear hbk6 hro6 hb6; have hc6 : w2.cell? ⟨g, 0, none⟩ = some (.slice A6 st.length cp6) := (blk_cell BK.out 0).trans rfl; have hf6 := blk_frozen BK.out 0)) | ((with_reducible refine gate_builtin (b := .append) (xs := #[.tmp 60, .tmp 62]) rfl ?_); at_builtin; go_must (refine Kd.R_append (Kd.int .i64) (w0 := w0) w0.heap.size rfl (.tmp 60) (.tmp 62) 43 3 (.int .i64 0) 8 rfl Tryd.underlying43 info rfl (by decide) (by omega) (.slice A6 st.length cp6) st.reverse (1) [.int .i64 (1)] (fun _ => True) (fun _ => False) rfl rfl ?aP (fun _ hk => hk.elim) ?aF ?aO ?aB ?aS ?aL ?_; (case aP => exact rfl); (case aB => exact HB.out); (case aF => exact (fun _ _ => trivial)); (case aO => exact RO.out); (case aS => exact below_size HB.out); (case aL => have := LM.out; rw [List.length_reverse]; omega); intro v1 w8 ho hb hg hat; obtain ⟨A1, c1, rfl⟩ := Kd.R_slice ho; replace ho : Kd.R (Kd.int .i64) 3 w8 w0.heap.size (fun _ => True) (.slice A1 (st.length + 1) c1) (st.reverse ++ [1]) := (by rw [List.length_append, List.length_reverse] at ho; exact ho); have R1 := Aside0.mk ho; have HB8 := Aside0.mk hb; have K8 := Aside0.mk (blk_grown BK.out hg (Kd.R_ne RO.out BK.out (by decide))); clear ho hb hg hat; have hcz8 : w8.cell? ⟨g, 0, none⟩ = some (.slice A6 st.length cp6) := (blk_cell K8.out 0).trans rfl; have hfz8 := blk_frozen K8.out 0)))
  ·
   go_end0
   exact .inr ⟨OV.out, rfl, by rw [List.reverse_cons]; exact ⟨_, blk_put K8.out 0 _ rfl, Kd.R_set R1.out K8.out (by decide) _ _, HB8.out.setCell BG.out _⟩⟩
 rw [if_neg k11] at h
 by_cases k12 : k = 12
 ·
  subst k12
  rw [if_pos rfl] at h
  obtain ⟨rfl, rfl⟩ := Prod.mk.inj (Option.some.inj h)
  clear h
  rcases htail with ⟨ov, t1⟩ | ⟨ov, t1, t2⟩ | ⟨ov, t1, t2⟩
  ·
   exact absurd t1 (by decide)
  ·
   exact absurd t2 (by decide)
  all_goals have OV := Aside0.mk ov
  all_goals clear ov
  all_goals go_enter Tryd.func82, Tryd.ntmps82
  all_goals go_wp2_with (first | ((with_reducible refine gate_dst (N := 3) rfl ?_); go_must (refine box_event ?hg (N := 3) ?hd (cs := #[.int .i64 12, .int .i64 v]) (t := 72) ?hr ?_; (case hd => rfl); (case hg => rfl); (case hr => first | (go_simp; done) | (go_simp; rfl)); intro g3 hg w2 hbox hb; have K3 := Aside0.mk hbox; have N3 := Aside0.mk (show g3 ≠ g by rw [hg]; exact Nat.ne_of_gt HV.out.lt); have HV2 := Aside0.mk (MachAt.below HV.out hb); clear hb hbox hg; have h20 : w2.cell? ⟨g3, 0, none⟩ = some (.int .i64 12) := (blk_cell K3.out 0).trans rfl; have h21 : w2.cell? ⟨g3, 1, none⟩ = some (.int .i64 v) := (blk_cell K3.out 1).trans rfl; obtain ⟨A6, cp6, hbk6, hro6, hb6⟩ := HV2.out.parts; have BK := Aside0.mk hbk6; have RO := Aside0.mk hro6; have HB := Aside0.mk hb6; clear hbk6 hro6 hb6; have hc6 : w2.cell? ⟨g, 0, none⟩ = some (.slice A6 st.length cp6) := (blk_cell BK.out 0).trans rfl; have hf6 := blk_frozen BK.out 0)) | ((with_reducible refine gate_builtin (b := .append) (xs := #[.tmp 60, .tmp 62]) rfl ?_); at_builtin; go_must (refine Kd.R_append (Kd.int .i64) (w0 := w0) w0.heap.size rfl (.tmp 60) (.tmp 62) 43 3 (.int .i64 0) 8 rfl Tryd.underlying43 info rfl (by decide) (by omega) (.slice A6 st.length cp6) st.reverse (0) [.int .i64 (0)] (fun _ => True) (fun _ => False) rfl rfl ?aP (fun _ hk => hk.elim) ?aF ?aO ?aB ?aS ?aL ?_; (case aP => exact rfl); (case aB => exact HB.out); (case aF => exact (fun _ _ => trivial)); (case aO => exact RO.out); (case aS => exact below_size HB.out); (case aL => have := LM.out; rw [List.length_reverse]; omega); intro v1 w8 ho hb hg hat; obtain ⟨A1, c1, rfl⟩ := Kd.R_slice ho; replace ho : Kd.R (Kd.int .i64) 3 w8 w0.heap.size (fun _ => True) (.slice A1 (st.length + 1) c1) (st.reverse ++ [0]) := (by rw [List.length_append, List.length_reverse] at ho; exact ho); have R1 := Aside0.mk ho; have HB8 := Aside0.mk hb; have K8 := Aside0.mk (blk_grown BK.out hg (Kd.R_ne RO.out BK.out (by decide))); clear ho hb hg hat; have hcz8 : w8.cell? ⟨g, 0, none⟩ = some (.slice A6 st.length cp6) := (blk_cell K8.out 0).trans rfl; have hfz8 := blk_frozen K8.out 0)))
  ·
   go_end0
   exact .inr ⟨OV.out, rfl, by rw [List.reverse_cons]; exact ⟨_, blk_put K8.out 0 _ rfl, Kd.R_set R1.out K8.out (by decide) _ _, HB8.out.setCell BG.out _⟩⟩
 rw [if_neg k12] at h
 by_cases k10 : k = 10
 ·
  subst k10
  rw [if_pos rfl] at h
  cases st with
  | nil => exact absurd h (by simp)
  | cons y ys =>
   obtain ⟨rfl, rfl⟩ := Prod.mk.inj (Option.some.inj h)
   clear h
   rw [List.reverse_cons] at HV
   rcases htail with ⟨ov, t1⟩ | ⟨ov, t1, t2⟩ | ⟨ov, t1, t2⟩
   all_goals have OV := Aside0.mk ov
   all_goals clear ov
   all_goals go_enter Tryd.func82, Tryd.ntmps82
   all_goals go_wp2_with (first | ((with_reducible refine gate_dst (N := 3) rfl ?_); go_must (refine box_event ?hg (N := 3) ?hd (cs := #[.int .i64 10, .int .i64 v]) (t := 72) ?hr ?_; (case hd => rfl); (case hg => rfl); (case hr => first | (go_simp; done) | (go_simp; rfl)); intro g3 hg w2 hbox hb; have K3 := Aside0.mk hbox; have N3 := Aside0.mk (show g3 ≠ g by rw [hg]; exact Nat.ne_of_gt HV.out.lt); have HV2 := Aside0.mk (MachAt.below HV.out hb); clear hb hbox hg; have h20 : w2.cell? ⟨g3, 0, none⟩ = some (.int .i64 10) := (blk_cell K3.out 0).trans rfl; have h21 : w2.cell? ⟨g3, 1, none⟩ = some (.int .i64 v) := (blk_cell K3.out 1).trans rfl)) | (go_at_call 83; refine (mach_pop.calls w0 A env.length c g BG.out ys.reverse _ _ (show MachAt _ _ _ _ _ _ _ from HV2.out)).mono ?_; rintro e w4 ⟨rfl, hv, hz, hk⟩; have HV4 := Aside0.mk hv; clear hv; clear hz hk; obtain ⟨A6, cp6, hbk6, hro6, hb6⟩ := HV4.out.parts; have BK := Aside0.mk hbk6; have RO := Aside0.mk hro6; have HB := Aside0.mk hb6; clear hbk6 hro6 hb6; have hc6 : w4.cell? ⟨g, 0, none⟩ = some (.slice A6 ys.length cp6) := (blk_cell BK.out 0).trans rfl; have hf6 := blk_frozen BK.out 0) | ((with_reducible refine gate_builtin (b := .append) (xs := #[.tmp 60, .tmp 62]) rfl ?_); at_builtin; go_must (refine Kd.R_append (Kd.int .i64) (w0 := w0) w0.heap.size rfl (.tmp 60) (.tmp 62) 43 3 (.int .i64 0) 8 rfl Tryd.underlying43 info rfl (by decide) (by omega) (.slice A6 ys.length cp6) ys.reverse (wrap64 (1 - y)) [.int .i64 (wrap64 (1 - y))] (fun _ => True) (fun _ => False) rfl rfl ?aP (fun _ hk => hk.elim) ?aF ?aO ?aB ?aS ?aL ?_; (case aP => exact rfl); (case aB => exact HB.out); (case aF => exact (fun _ _ => trivial)); (case aO => exact RO.out); (case aS => exact below_size HB.out); (case aL => have := LM.out; rw [List.length_reverse]; omega); intro v1 w8 ho hb hg hat; obtain ⟨A1, c1, rfl⟩ := Kd.R_slice ho; replace ho : Kd.R (Kd.int .i64) 3 w8 w0.heap.size (fun _ => True) (.slice A1 (ys.length + 1) c1) (ys.reverse ++ [wrap64 (1 - y)]) := (by rw [List.length_append, List.length_reverse] at ho; exact ho); have R1 := Aside0.mk ho; have HB8 := Aside0.mk hb; have K8 := Aside0.mk (blk_grown BK.out hg (Kd.R_ne RO.out BK.out (by decide))); clear ho hb hg hat; have hcz8 : w8.cell? ⟨g, 0, none⟩ = some (.slice A6 ys.length cp6) := (blk_cell K8.out 0).trans rfl; have hfz8 := blk_frozen K8.out 0)))
   ·
    exact ⟨rfl, .inl ⟨OV.out, rfl, HB.out⟩⟩
   ·
    exact ⟨rfl, .inl ⟨OV.out, rfl, HB.out⟩⟩
   ·
    go_end0
    exact .inr ⟨OV.out, rfl, by rw [List.reverse_cons]; exact ⟨_, blk_put K8.out 0 _ rfl, Kd.R_set R1.out K8.out (by decide) _ _, HB8.out.setCell BG.out _⟩⟩
 rw [if_neg k10] at h
 by_cases k39 : 3 ≤ k ∧ k ≤ 9
 ·
  rw [if_pos k39] at h
  rcases st with _ | ⟨a, _ | ⟨b, ys⟩⟩
  ·
   exact absurd h (by simp)
  ·
   exact absurd h (by simp)
  ·
   obtain ⟨hn, rfl⟩ := Prod.mk.inj (Option.some.inj h)
   clear h
   rw [List.reverse_cons, List.reverse_cons] at HV
   have hk : k = 3 ∨ k = 4 ∨ k = 5 ∨ k = 6 ∨ k = 7 ∨ k = 8 ∨ k = 9 := by omega
   clear k1 k2 k11 k12 k10 k39
   rcases hk with rfl | rfl | rfl | rfl | rfl | rfl | rfl
   ·
    have hn' : (wrap64 (a + b)) = n := hn
    have HN := Aside0.mk hn'
    clear hn hn'
    rcases htail with ⟨ov, t1⟩ | ⟨ov, t1, t2⟩ | ⟨ov, t1, t2⟩
    all_goals have OV := Aside0.mk ov
    all_goals clear ov
    all_goals go_enter Tryd.func82, Tryd.ntmps82
    all_goals go_wp2_with (first | ((with_reducible refine gate_dst (N := 3) rfl ?_); go_must (refine box_event ?hg (N := 3) ?hd (cs := #[.int .i64 3, .int .i64 v]) (t := 72) ?hr ?_; (case hd => rfl); (case hg => rfl); (case hr => first | (go_simp; done) | (go_simp; rfl)); intro g3 hg w2 hbox hb; have K3 := Aside0.mk hbox; have N3 := Aside0.mk (show g3 ≠ g by rw [hg]; exact Nat.ne_of_gt HV.out.lt); have HV2 := Aside0.mk (MachAt.below HV.out hb); clear hb hbox hg; have h20 : w2.cell? ⟨g3, 0, none⟩ = some (.int .i64 3) := (blk_cell K3.out 0).trans rfl; have h21 : w2.cell? ⟨g3, 1, none⟩ = some (.int .i64 v) := (blk_cell K3.out 1).trans rfl)) | (go_at_call 83; refine (mach_pop.calls w0 A env.length c g BG.out (ys.reverse ++ [b]) _ _ (show MachAt _ _ _ _ _ _ _ from HV2.out)).mono ?_; rintro e w4 ⟨rfl, hv, hz, hk⟩; have HV4 := Aside0.mk hv; clear hv; have K34 := Aside0.mk ((hk g3 N3.out).trans K3.out); clear hz hk K3 HV2) | (go_at_call 83; refine (mach_pop.calls w0 A env.length c g BG.out ys.reverse _ _ (show MachAt _ _ _ _ _ _ _ from HV4.out)).mono ?_; rintro e w5 ⟨rfl, hv, hz, hk⟩; have HV5 := Aside0.mk hv; clear hv; have K35 := Aside0.mk ((hk g3 N3.out).trans K34.out); clear hz hk K34 HV4) | ((with_reducible refine gate_dst (N := 5) rfl ?_); go_must (refine box_event ?hg (N := 5) ?hd (cs := #[.int .i64 0]) (t := 3) ?hr ?_; (case hd => rfl); (case hg => rfl); (case hr => first | (go_simp; done) | (go_simp; rfl)); intro g5 hg w6 hbox hb; have K5 := Aside0.mk hbox; have G5 := Aside0.mk hg; have HB6 := Aside0.mk hb; have h56 : w6.cell? ⟨g5, 0, none⟩ = some (.int .i64 0) := (blk_cell K5.out 0).trans rfl; have f56 := blk_frozen K5.out 0; clear hb hbox hg)) | ((with_reducible refine gate_dst (N := 6) rfl ?_); go_must (refine box_event ?hg (N := 6) ?hd (cs := #[.int .i64 0]) (t := 3) ?hr ?_; (case hd => rfl); (case hg => rfl); (case hr => first | (go_simp; done) | (go_simp; rfl)); intro g6 hg w7 hbox hb; have K6 := Aside0.mk hbox; have G6 := Aside0.mk hg; have K57 := Aside0.mk (blk_below K5.out hb); have HB7 := Aside0.mk (below_step HB6.out hb); have N56 : g5 ≠ g6 := (by rw [hg]; exact Nat.ne_of_lt (blk_lt K5.out)); have GL6 := Aside0.mk (show w5.heap.size ≤ g6 by rw [hg]; exact below_size HB6.out); have h57 : w7.cell? ⟨g5, 0, none⟩ = some (.int .i64 0) := (blk_cell K57.out 0).trans rfl; have f57 := blk_frozen K57.out 0; have h67 : w7.cell? ⟨g6, 0, none⟩ = some (.int .i64 0) := (blk_cell K6.out 0).trans rfl; have f67 := blk_frozen K6.out 0; clear hb hbox hg)) | ((with_reducible refine gate_store (t := 3) (p := 5) (v := .tmp 10) rfl ?_); go_must (refine store_event (t := 3) (p := 5) (v := .tmp 10) (w1 := (w7.setCell ⟨g5, 0, none⟩ (.int .i64 a))) ?hg ?ho ?hn ?hr ?_; (case ho => rfl); (case hg => rfl); (case hn => rfl); (case hr => first | (go_simp; done) | (go_simp; rfl)); intro w8 hw; have K58 := Aside0.mk (show w8.heap[g5]? = some (.cells #[.int .i64 a] 3 (0, 0)) by rw [hw]; exact blk_put K57.out 0 _ rfl); have K68 := Aside0.mk (show w8.heap[g6]? = some (.cells #[.int .i64 0] 3 (0, 0)) by rw [hw]; exact blk_far (p := ⟨g5, 0, none⟩) K6.out N56.symm _); have HB8 := Aside0.mk (show Below w5.heap.size w5 w8 by rw [hw]; exact HB7.out.setCell (p := ⟨g5, 0, none⟩) (Nat.le_of_eq G5.out.symm) _); have h68 : w8.cell? ⟨g6, 0, none⟩ = some (.int .i64 0) := (blk_cell K68.out 0).trans rfl; have f68 := blk_frozen K68.out 0; clear hw)) | ((with_reducible refine gate_store (t := 3) (p := 6) (v := .tmp 12) rfl ?_); go_must (refine store_event (t := 3) (p := 6) (v := .tmp 12) (w1 := (w8.setCell ⟨g6, 0, none⟩ (.int .i64 b))) ?hg ?ho ?hn ?hr ?_; (case ho => rfl); (case hg => rfl); (case hn => rfl); (case hr => first | (go_simp; done) | (go_simp; rfl)); intro w9 hw; have K59 := Aside0.mk (show w9.heap[g5]? = some (.cells #[.int .i64 a] 3 (0, 0)) by rw [hw]; exact blk_far (p := ⟨g6, 0, none⟩) K58.out N56 _); have K69 := Aside0.mk (show w9.heap[g6]? = some (.cells #[.int .i64 b] 3 (0, 0)) by rw [hw]; exact blk_put K68.out 0 _ rfl); have HB9 := Aside0.mk (show Below w5.heap.size w5 w9 by rw [hw]; exact HB8.out.setCell (p := ⟨g6, 0, none⟩) GL6.out _); have HM := Aside0.mk (MapAt.made w9); have HBM := Aside0.mk (below_alloc (Below.refl w9.heap.size w9) (.map #[] 0)); clear hw)) | ((with_reducible refine gate_insert (t := 183) rfl ?_); go_must (refine wpList_insert_at _ rfl _ _ _ 183 rfl 160 3 Tryd.underlying183 Tryd.underlying3 w9.heap.size _ _ _ rfl rfl rfl HM.out rfl ?_; intro w10 hat hbw; replace HM := Aside0.mk hat; replace HBM := Aside0.mk (Below.trans HBM.out (hbw _ (Nat.le_refl _))); clear hat hbw; replace h3x : w10.cell? ⟨g3, 0, none⟩ = some (.int .i64 3) := (blk_cell (blk_below (blk_below K35.out HB9.out) HBM.out) 0).trans rfl)) | (at_lookup; go_must (refine wpList_lookup_at _ rfl _ _ 183 rfl 160 3 Tryd.underlying183 Tryd.underlying3 w9.heap.size _ _ _ rfl rfl HM.out rfl ?_)) | (go_at_call 102; go_must (refine (mach_do1.calls g5 g6 a b _ ((blk_cell (blk_below K59.out HBM.out) 0).trans rfl) ((blk_cell (blk_below K69.out HBM.out) 0).trans rfl)).mono ?_; rintro e w11 ⟨he, hww⟩; rw [HN.out] at he; subst he; have HV11 := Aside0.mk (show MachAt w0 w11 g A env.length c ys.reverse by rw [hww]; exact MachAt.below (MachAt.below HV5.out HB9.out) HBM.out); clear hww; obtain ⟨A6, cp6, hbk6, hro6, hb6⟩ := HV11.out.parts; have BK := Aside0.mk hbk6; have RO := Aside0.mk hro6; have HB := Aside0.mk hb6; clear hbk6 hro6 hb6; have hc6 : w11.cell? ⟨g, 0, none⟩ = some (.slice A6 ys.length cp6) := (blk_cell BK.out 0).trans rfl; have hf6 := blk_frozen BK.out 0)) | ((with_reducible refine gate_builtin (b := .append) (xs := #[.tmp 60, .tmp 62]) rfl ?_); at_builtin; go_must (refine Kd.R_append (Kd.int .i64) (w0 := w0) w0.heap.size rfl (.tmp 60) (.tmp 62) 43 3 (.int .i64 0) 8 rfl Tryd.underlying43 info rfl (by decide) (by omega) (.slice A6 ys.length cp6) ys.reverse (n) [.int .i64 (n)] (fun _ => True) (fun _ => False) rfl rfl ?aP (fun _ hk => hk.elim) ?aF ?aO ?aB ?aS ?aL ?_; (case aP => exact rfl); (case aB => exact HB.out); (case aF => exact (fun _ _ => trivial)); (case aO => exact RO.out); (case aS => exact below_size HB.out); (case aL => have := LM.out; rw [List.length_reverse]; omega); intro v1 w8 ho hb hg hat; obtain ⟨A1, c1, rfl⟩ := Kd.R_slice ho; replace ho : Kd.R (Kd.int .i64) 3 w8 w0.heap.size (fun _ => True) (.slice A1 (ys.length + 1) c1) (ys.reverse ++ [n]) := (by rw [List.length_append, List.length_reverse] at ho; exact ho); have R1 := Aside0.mk ho; have HB8 := Aside0.mk hb; have K8 := Aside0.mk (blk_grown BK.out hg (Kd.R_ne RO.out BK.out (by decide))); clear ho hb hg hat; have hcz8 : w8.cell? ⟨g, 0, none⟩ = some (.slice A6 ys.length cp6) := (blk_cell K8.out 0).trans rfl; have hfz8 := blk_frozen K8.out 0)))
    ·
     exact ⟨rfl, .inl ⟨OV.out, rfl, HB.out⟩⟩
    ·
     exact ⟨rfl, .inl ⟨OV.out, rfl, HB.out⟩⟩
    ·
     go_end0
     exact .inr ⟨OV.out, rfl, by rw [List.reverse_cons]; exact ⟨_, blk_put K8.out 0 _ rfl, Kd.R_set R1.out K8.out (by decide) _ _, HB8.out.setCell BG.out _⟩⟩
   ·
    have hn' : (wrap64 (a - b)) = n := hn
    have HN := Aside0.mk hn'
    clear hn hn'
    rcases htail with ⟨ov, t1⟩ | ⟨ov, t1, t2⟩ | ⟨ov, t1, t2⟩
    all_goals have OV := Aside0.mk ov
    all_goals clear ov
    all_goals go_enter Tryd.func82, Tryd.ntmps82
    all_goals go_wp2_with (first | ((with_reducible refine gate_dst (N := 3) rfl ?_); go_must (refine box_event ?hg (N := 3) ?hd (cs := #[.int .i64 4, .int .i64 v]) (t := 72) ?hr ?_; (case hd => rfl); (case hg => rfl); (case hr => first | (go_simp; done) | (go_simp; rfl)); intro g3 hg w2 hbox hb; have K3 := Aside0.mk hbox; have N3 := Aside0.mk (show g3 ≠ g by rw [hg]; exact Nat.ne_of_gt HV.out.lt); have HV2 := Aside0.mk (MachAt.below HV.out hb); clear hb hbox hg; have h20 : w2.cell? ⟨g3, 0, none⟩ = some (.int .i64 4) := (blk_cell K3.out 0).trans rfl; have h21 : w2.cell? ⟨g3, 1, none⟩ = some (.int .i64 v) := (blk_cell K3.out 1).trans rfl)) | (go_at_call 83; refine (mach_pop.calls w0 A env.length c g BG.out (ys.reverse ++ [b]) _ _ (show MachAt _ _ _ _ _ _ _ from HV2.out)).mono ?_; rintro e w4 ⟨rfl, hv, hz, hk⟩; have HV4 := Aside0.mk hv; clear hv; have K34 := Aside0.mk ((hk g3 N3.out).trans K3.out); clear hz hk K3 HV2) | (go_at_call 83; refine (mach_pop.calls w0 A env.length c g BG.out ys.reverse _ _ (show MachAt _ _ _ _ _ _ _ from HV4.out)).mono ?_; rintro e w5 ⟨rfl, hv, hz, hk⟩; have HV5 := Aside0.mk hv; clear hv; have K35 := Aside0.mk ((hk g3 N3.out).trans K34.out); clear hz hk K34 HV4) | ((with_reducible refine gate_dst (N := 5) rfl ?_); go_must (refine box_event ?hg (N := 5) ?hd (cs := #[.int .i64 0]) (t := 3) ?hr ?_; (case hd => rfl); (case hg => rfl); (case hr => first | (go_simp; done) | (go_simp; rfl)); intro g5 hg w6 hbox hb; have K5 := Aside0.mk hbox; have G5 := Aside0.mk hg; have HB6 := Aside0.mk hb; have h56 : w6.cell? ⟨g5, 0, none⟩ = some (.int .i64 0) := (blk_cell K5.out 0).trans rfl; have f56 := blk_frozen K5.out 0; clear hb hbox hg)) | ((with_reducible refine gate_dst (N := 6) rfl ?_); go_must (refine box_event ?hg (N := 6) ?hd (cs := #[.int .i64 0]) (t := 3) ?hr ?_; (case hd => rfl); (case hg => rfl); (case hr => first | (go_simp; done) | (go_simp; rfl)); intro g6 hg w7 hbox hb; have K6 := Aside0.mk hbox; have G6 := Aside0.mk hg; have K57 := Aside0.mk (blk_below K5.out hb); have HB7 := Aside0.mk (below_step HB6.out hb); have N56 : g5 ≠ g6 := (by rw [hg]; exact Nat.ne_of_lt (blk_lt K5.out)); have GL6 := Aside0.mk (show w5.heap.size ≤ g6 by rw [hg]; exact below_size HB6.out); have h57 : w7.cell? ⟨g5, 0, none⟩ = some (.int .i64 0) := (blk_cell K57.out 0).trans rfl; have f57 := blk_frozen K57.out 0; have h67 : w7.cell? ⟨g6, 0, none⟩ = some (.int .i64 0) := (blk_cell K6.out 0).trans rfl; have f67 := blk_frozen K6.out 0; clear hb hbox hg)) | ((with_reducible refine gate_store (t := 3) (p := 5) (v := .tmp 10) rfl ?_); go_must (refine store_event (t := 3) (p := 5) (v := .tmp 10) (w1 := (w7.setCell ⟨g5, 0, none⟩ (.int .i64 a))) ?hg ?ho ?hn ?hr ?_; (case ho => rfl); (case hg => rfl); (case hn => rfl); (case hr => first | (go_simp; done) | (go_simp; rfl)); intro w8 hw; have K58 := Aside0.mk (show w8.heap[g5]? = some (.cells #[.int .i64 a] 3 (0, 0)) by rw [hw]; exact blk_put K57.out 0 _ rfl); have K68 := Aside0.mk (show w8.heap[g6]? = some (.cells #[.int .i64 0] 3 (0, 0)) by rw [hw]; exact blk_far (p := ⟨g5, 0, none⟩) K6.out N56.symm _); have HB8 := Aside0.mk (show Below w5.heap.size w5 w8 by rw [hw]; exact HB7.out.setCell (p := ⟨g5, 0, none⟩) (Nat.le_of_eq G5.out.symm) _); have h68 : w8.cell? ⟨g6, 0, none⟩ = some (.int .i64 0) := (blk_cell K68.out 0).trans rfl; have f68 := blk_frozen K68.out 0; clear hw)) | ((with_reducible refine gate_store (t := 3) (p := 6) (v := .tmp 12) rfl ?_); go_must (refine store_event (t := 3) (p := 6) (v := .tmp 12) (w1 := (w8.setCell ⟨g6, 0, none⟩ (.int .i64 b))) ?hg ?ho ?hn ?hr ?_; (case ho => rfl); (case hg => rfl); (case hn => rfl); (case hr => first | (go_simp; done) | (go_simp; rfl)); intro w9 hw; have K59 := Aside0.mk (show w9.heap[g5]? = some (.cells #[.int .i64 a] 3 (0, 0)) by rw [hw]; exact blk_far (p := ⟨g6, 0, none⟩) K58.out N56 _); have K69 := Aside0.mk (show w9.heap[g6]? = some (.cells #[.int .i64 b] 3 (0, 0)) by rw [hw]; exact blk_put K68.out 0 _ rfl); have HB9 := Aside0.mk (show Below w5.heap.size w5 w9 by rw [hw]; exact HB8.out.setCell (p := ⟨g6, 0, none⟩) GL6.out _); have HM := Aside0.mk (MapAt.made w9); have HBM := Aside0.mk (below_alloc (Below.refl w9.heap.size w9) (.map #[] 0)); clear hw)) | ((with_reducible refine gate_insert (t := 183) rfl ?_); go_must (refine wpList_insert_at _ rfl _ _ _ 183 rfl 160 3 Tryd.underlying183 Tryd.underlying3 w9.heap.size _ _ _ rfl rfl rfl HM.out rfl ?_; intro w10 hat hbw; replace HM := Aside0.mk hat; replace HBM := Aside0.mk (Below.trans HBM.out (hbw _ (Nat.le_refl _))); clear hat hbw; replace h3x : w10.cell? ⟨g3, 0, none⟩ = some (.int .i64 4) := (blk_cell (blk_below (blk_below K35.out HB9.out) HBM.out) 0).trans rfl)) | (at_lookup; go_must (refine wpList_lookup_at _ rfl _ _ 183 rfl 160 3 Tryd.underlying183 Tryd.underlying3 w9.heap.size _ _ _ rfl rfl HM.out rfl ?_)) | (go_at_call 103; go_must (refine (mach_do2.calls g5 g6 a b _ ((blk_cell (blk_below K59.out HBM.out) 0).trans rfl) ((blk_cell (blk_below K69.out HBM.out) 0).trans rfl)).mono ?_; rintro e w11 ⟨he, hww⟩; rw [HN.out] at he; subst he; have HV11 := Aside0.mk (show MachAt w0 w11 g A env.length c ys.reverse by rw [hww]; exact MachAt.below (MachAt.below HV5.out HB9.out) HBM.out); clear hww; obtain ⟨A6, cp6, hbk6, hro6, hb6⟩ := HV11.out.parts; have BK := Aside0.mk hbk6; have RO := Aside0.mk hro6; have HB := Aside0.mk hb6; clear hbk6 hro6 hb6; have hc6 : w11.cell? ⟨g, 0, none⟩ = some (.slice A6 ys.length cp6) := (blk_cell BK.out 0).trans rfl; have hf6 := blk_frozen BK.out 0)) | ((with_reducible refine gate_builtin (b := .append) (xs := #[.tmp 60, .tmp 62]) rfl ?_); at_builtin; go_must (refine Kd.R_append (Kd.int .i64) (w0 := w0) w0.heap.size rfl (.tmp 60) (.tmp 62) 43 3 (.int .i64 0) 8 rfl Tryd.underlying43 info rfl (by decide) (by omega) (.slice A6 ys.length cp6) ys.reverse (n) [.int .i64 (n)] (fun _ => True) (fun _ => False) rfl rfl ?aP (fun _ hk => hk.elim) ?aF ?aO ?aB ?aS ?aL ?_; (case aP => exact rfl); (case aB => exact HB.out); (case aF => exact (fun _ _ => trivial)); (case aO => exact RO.out); (case aS => exact below_size HB.out); (case aL => have := LM.out; rw [List.length_reverse]; omega); intro v1 w8 ho hb hg hat; obtain ⟨A1, c1, rfl⟩ := Kd.R_slice ho; replace ho : Kd.R (Kd.int .i64) 3 w8 w0.heap.size (fun _ => True) (.slice A1 (ys.length + 1) c1) (ys.reverse ++ [n]) := (by rw [List.length_append, List.length_reverse] at ho; exact ho); have R1 := Aside0.mk ho; have HB8 := Aside0.mk hb; have K8 := Aside0.mk (blk_grown BK.out hg (Kd.R_ne RO.out BK.out (by decide))); clear ho hb hg hat; have hcz8 : w8.cell? ⟨g, 0, none⟩ = some (.slice A6 ys.length cp6) := (blk_cell K8.out 0).trans rfl; have hfz8 := blk_frozen K8.out 0)))
    ·
     exact ⟨rfl, .inl ⟨OV.out, rfl, HB.out⟩⟩
    ·
     exact ⟨rfl, .inl ⟨OV.out, rfl, HB.out⟩⟩
    ·
     go_end0
     exact .inr ⟨OV.out, rfl, by rw [List.reverse_cons]; exact ⟨_, blk_put K8.out 0 _ rfl, Kd.R_set R1.out K8.out (by decide) _ _, HB8.out.setCell BG.out _⟩⟩
   ·
    have hn' : (wrap64 (a * b)) = n := hn
    have HN := Aside0.mk hn'
    clear hn hn'
    rcases htail with ⟨ov, t1⟩ | ⟨ov, t1, t2⟩ | ⟨ov, t1, t2⟩
    all_goals have OV := Aside0.mk ov
    all_goals clear ov
    all_goals go_enter Tryd.func82, Tryd.ntmps82
    all_goals go_wp2_with (first | ((with_reducible refine gate_dst (N := 3) rfl ?_); go_must (refine box_event ?hg (N := 3) ?hd (cs := #[.int .i64 5, .int .i64 v]) (t := 72) ?hr ?_; (case hd => rfl); (case hg => rfl); (case hr => first | (go_simp; done) | (go_simp; rfl)); intro g3 hg w2 hbox hb; have K3 := Aside0.mk hbox; have N3 := Aside0.mk (show g3 ≠ g by rw [hg]; exact Nat.ne_of_gt HV.out.lt); have HV2 := Aside0.mk (MachAt.below HV.out hb); clear hb hbox hg; have h20 : w2.cell? ⟨g3, 0, none⟩ = some (.int .i64 5) := (blk_cell K3.out 0).trans rfl; have h21 : w2.cell? ⟨g3, 1, none⟩ = some (.int .i64 v) := (blk_cell K3.out 1).trans rfl)) | (go_at_call 83; refine (mach_pop.calls w0 A env.length c g BG.out (ys.reverse ++ [b]) _ _ (show MachAt _ _ _ _ _ _ _ from HV2.out)).mono ?_; rintro e w4 ⟨rfl, hv, hz, hk⟩; have HV4 := Aside0.mk hv; clear hv; have K34 := Aside0.mk ((hk g3 N3.out).trans K3.out); clear hz hk K3 HV2) | (go_at_call 83; refine (mach_pop.calls w0 A env.length c g BG.out ys.reverse _ _ (show MachAt _ _ _ _ _ _ _ from HV4.out)).mono ?_; rintro e w5 ⟨rfl, hv, hz, hk⟩; have HV5 := Aside0.mk hv; clear hv; have K35 := Aside0.mk ((hk g3 N3.out).trans K34.out); clear hz hk K34 HV4) | ((with_reducible refine gate_dst (N := 5) rfl ?_); go_must (refine box_event ?hg (N := 5) ?hd (cs := #[.int .i64 0]) (t := 3) ?hr ?_; (case hd => rfl); (case hg => rfl); (case hr => first | (go_simp; done) | (go_simp; rfl)); intro g5 hg w6 hbox hb; have K5 := Aside0.mk hbox; have G5 := Aside0.mk hg; have HB6 := Aside0.mk hb; have h56 : w6.cell? ⟨g5, 0, none⟩ = some (.int .i64 0) := (blk_cell K5.out 0).trans rfl; have f56 := blk_frozen K5.out 0; clear hb hbox hg)) | ((with_reducible refine gate_dst (N := 6) rfl ?_); go_must (refine box_event ?hg (N := 6) ?hd (cs := #[.int .i64 0]) (t := 3) ?hr ?_; (case hd => rfl); (case hg => rfl); (case hr => first | (go_simp; done) | (go_simp; rfl)); intro g6 hg w7 hbox hb; have K6 := Aside0.mk hbox; have G6 := Aside0.mk hg; have K57 := Aside0.mk (blk_below K5.out hb); have HB7 := Aside0.mk (below_step HB6.out hb); have N56 : g5 ≠ g6 := (by rw [hg]; exact Nat.ne_of_lt (blk_lt K5.out)); have GL6 := Aside0.mk (show w5.heap.size ≤ g6 by rw [hg]; exact below_size HB6.out); have h57 : w7.cell? ⟨g5, 0, none⟩ = some (.int .i64 0) := (blk_cell K57.out 0).trans rfl; have f57 := blk_frozen K57.out 0; have h67 : w7.cell? ⟨g6, 0, none⟩ = some (.int .i64 0) := (blk_cell K6.out 0).trans rfl; have f67 := blk_frozen K6.out 0; clear hb hbox hg)) | ((with_reducible refine gate_store (t := 3) (p := 5) (v := .tmp 10) rfl ?_); go_must (refine store_event (t := 3) (p := 5) (v := .tmp 10) (w1 := (w7.setCell ⟨g5, 0, none⟩ (.int .i64 a))) ?hg ?ho ?hn ?hr ?_; (case ho => rfl); (case hg => rfl); (case hn => rfl); (case hr => first | (go_simp; done) | (go_simp; rfl)); intro w8 hw; have K58 := Aside0.mk (show w8.heap[g5]? = some (.cells #[.int .i64 a] 3 (0, 0)) by rw [hw]; exact blk_put K57.out 0 _ rfl); have K68 := Aside0.mk (show w8.heap[g6]? = some (.cells #[.int .i64 0] 3 (0, 0)) by rw [hw]; exact blk_far (p := ⟨g5, 0, none⟩) K6.out N56.symm _); have HB8 := Aside0.mk (show Below w5.heap.size w5 w8 by rw [hw]; exact HB7.out.setCell (p := ⟨g5, 0, none⟩) (Nat.le_of_eq G5.out.symm) _); have h68 : w8.cell? ⟨g6, 0, none⟩ = some (.int .i64 0) := (blk_cell K68.out 0).trans rfl; have f68 := blk_frozen K68.out 0; clear hw)) | ((with_reducible refine gate_store (t := 3) (p := 6) (v := .tmp 12) rfl ?_); go_must (refine store_event (t := 3) (p := 6) (v := .tmp 12) (w1 := (w8.setCell ⟨g6, 0, none⟩ (.int .i64 b))) ?hg ?ho ?hn ?hr ?_; (case ho => rfl); (case hg => rfl); (case hn => rfl); (case hr => first | (go_simp; done) | (go_simp; rfl)); intro w9 hw; have K59 := Aside0.mk (show w9.heap[g5]? = some (.cells #[.int .i64 a] 3 (0, 0)) by rw [hw]; exact blk_far (p := ⟨g6, 0, none⟩) K58.out N56 _); have K69 := Aside0.mk (show w9.heap[g6]? = some (.cells #[.int .i64 b] 3 (0, 0)) by rw [hw]; exact blk_put K68.out 0 _ rfl); have HB9 := Aside0.mk (show Below w5.heap.size w5 w9 by rw [hw]; exact HB8.out.setCell (p := ⟨g6, 0, none⟩) GL6.out _); have HM := Aside0.mk (MapAt.made w9); have HBM := Aside0.mk (below_alloc (Below.refl w9.heap.size w9) (.map #[] 0)); clear hw)) | ((with_reducible refine gate_insert (t := 183) rfl ?_); go_must (refine wpList_insert_at _ rfl _ _ _ 183 rfl 160 3 Tryd.underlying183 Tryd.underlying3 w9.heap.size _ _ _ rfl rfl rfl HM.out rfl ?_; intro w10 hat hbw; replace HM := Aside0.mk hat; replace HBM := Aside0.mk (Below.trans HBM.out (hbw _ (Nat.le_refl _))); clear hat hbw; replace h3x : w10.cell? ⟨g3, 0, none⟩ = some (.int .i64 5) := (blk_cell (blk_below (blk_below K35.out HB9.out) HBM.out) 0).trans rfl)) | (at_lookup; go_must (refine wpList_lookup_at _ rfl _ _ 183 rfl 160 3 Tryd.underlying183 Tryd.underlying3 w9.heap.size _ _ _ rfl rfl HM.out rfl ?_)) | (go_at_call 104; go_must (refine (mach_do3.calls g5 g6 a b _ ((blk_cell (blk_below K59.out HBM.out) 0).trans rfl) ((blk_cell (blk_below K69.out HBM.out) 0).trans rfl)).mono ?_; rintro e w11 ⟨he, hww⟩; rw [HN.out] at he; subst he; have HV11 := Aside0.mk (show MachAt w0 w11 g A env.length c ys.reverse by rw [hww]; exact MachAt.below (MachAt.below HV5.out HB9.out) HBM.out); clear hww; obtain ⟨A6, cp6, hbk6, hro6, hb6⟩ := HV11.out.parts; have BK := Aside0.mk hbk6; have RO := Aside0.mk hro6; have HB := Aside0.mk hb6; clear hbk6 hro6 hb6; have hc6 : w11.cell? ⟨g, 0, none⟩ = some (.slice A6 ys.length cp6) := (blk_cell BK.out 0).trans rfl; have hf6 := blk_frozen BK.out 0)) | ((with_reducible refine gate_builtin (b := .append) (xs := #[.tmp 60, .tmp 62]) rfl ?_); at_builtin; go_must (refine Kd.R_append (Kd.int .i64) (w0 := w0) w0.heap.size rfl (.tmp 60) (.tmp 62) 43 3 (.int .i64 0) 8 rfl Tryd.underlying43 info rfl (by decide) (by omega) (.slice A6 ys.length cp6) ys.reverse (n) [.int .i64 (n)] (fun _ => True) (fun _ => False) rfl rfl ?aP (fun _ hk => hk.elim) ?aF ?aO ?aB ?aS ?aL ?_; (case aP => exact rfl); (case aB => exact HB.out); (case aF => exact (fun _ _ => trivial)); (case aO => exact RO.out); (case aS => exact below_size HB.out); (case aL => have := LM.out; rw [List.length_reverse]; omega); intro v1 w8 ho hb hg hat; obtain ⟨A1, c1, rfl⟩ := Kd.R_slice ho; replace ho : Kd.R (Kd.int .i64) 3 w8 w0.heap.size (fun _ => True) (.slice A1 (ys.length + 1) c1) (ys.reverse ++ [n]) := (by rw [List.length_append, List.length_reverse] at ho; exact ho); have R1 := Aside0.mk ho; have HB8 := Aside0.mk hb; have K8 := Aside0.mk (blk_grown BK.out hg (Kd.R_ne RO.out BK.out (by decide))); clear ho hb hg hat; have hcz8 : w8.cell? ⟨g, 0, none⟩ = some (.slice A6 ys.length cp6) := (blk_cell K8.out 0).trans rfl; have hfz8 := blk_frozen K8.out 0)))
    ·
     exact ⟨rfl, .inl ⟨OV.out, rfl, HB.out⟩⟩
    ·
     exact ⟨rfl, .inl ⟨OV.out, rfl, HB.out⟩⟩
    ·
     go_end0
     exact .inr ⟨OV.out, rfl, by rw [List.reverse_cons]; exact ⟨_, blk_put K8.out 0 _ rfl, Kd.R_set R1.out K8.out (by decide) _ _, HB8.out.setCell BG.out _⟩⟩
   ·
    have hn' : (if a = b then 1 else 0) = n := hn
    have HN := Aside0.mk hn'
    clear hn hn'
    rcases htail with ⟨ov, t1⟩ | ⟨ov, t1, t2⟩ | ⟨ov, t1, t2⟩
    all_goals have OV := Aside0.mk ov
    all_goals clear ov
    all_goals go_enter Tryd.func82, Tryd.ntmps82
    all_goals go_wp2_with (first | ((with_reducible refine gate_dst (N := 3) rfl ?_); go_must (refine box_event ?hg (N := 3) ?hd (cs := #[.int .i64 6, .int .i64 v]) (t := 72) ?hr ?_; (case hd => rfl); (case hg => rfl); (case hr => first | (go_simp; done) | (go_simp; rfl)); intro g3 hg w2 hbox hb; have K3 := Aside0.mk hbox; have N3 := Aside0.mk (show g3 ≠ g by rw [hg]; exact Nat.ne_of_gt HV.out.lt); have HV2 := Aside0.mk (MachAt.below HV.out hb); clear hb hbox hg; have h20 : w2.cell? ⟨g3, 0, none⟩ = some (.int .i64 6) := (blk_cell K3.out 0).trans rfl; have h21 : w2.cell? ⟨g3, 1, none⟩ = some (.int .i64 v) := (blk_cell K3.out 1).trans rfl)) | (go_at_call 83; refine (mach_pop.calls w0 A env.length c g BG.out (ys.reverse ++ [b]) _ _ (show MachAt _ _ _ _ _ _ _ from HV2.out)).mono ?_; rintro e w4 ⟨rfl, hv, hz, hk⟩; have HV4 := Aside0.mk hv; clear hv; have K34 := Aside0.mk ((hk g3 N3.out).trans K3.out); clear hz hk K3 HV2) | (go_at_call 83; refine (mach_pop.calls w0 A env.length c g BG.out ys.reverse _ _ (show MachAt _ _ _ _ _ _ _ from HV4.out)).mono ?_; rintro e w5 ⟨rfl, hv, hz, hk⟩; have HV5 := Aside0.mk hv; clear hv; have K35 := Aside0.mk ((hk g3 N3.out).trans K34.out); clear hz hk K34 HV4) | ((with_reducible refine gate_dst (N := 5) rfl ?_); go_must (refine box_event ?hg (N := 5) ?hd (cs := #[.int .i64 0]) (t := 3) ?hr ?_; (case hd => rfl); (case hg => rfl); (case hr => first | (go_simp; done) | (go_simp; rfl)); intro g5 hg w6 hbox hb; have K5 := Aside0.mk hbox; have G5 := Aside0.mk hg; have HB6 := Aside0.mk hb; have h56 : w6.cell? ⟨g5, 0, none⟩ = some (.int .i64 0) := (blk_cell K5.out 0).trans rfl; have f56 := blk_frozen K5.out 0; clear hb hbox hg)) | ((with_reducible refine gate_dst (N := 6) rfl ?_); go_must (refine box_event ?hg (N := 6) ?hd (cs := #[.int .i64 0]) (t := 3) ?hr ?_; (case hd => rfl); (case hg => rfl); (case hr => first | (go_simp; done) | (go_simp; rfl)); intro g6 hg w7 hbox hb; have K6 := Aside0.mk hbox; have G6 := Aside0.mk hg; have K57 := Aside0.mk (blk_below K5.out hb); have HB7 := Aside0.mk (below_step HB6.out hb); have N56 : g5 ≠ g6 := (by rw [hg]; exact Nat.ne_of_lt (blk_lt K5.out)); have GL6 := Aside0.mk (show w5.heap.size ≤ g6 by rw [hg]; exact below_size HB6.out); have h57 : w7.cell? ⟨g5, 0, none⟩ = some (.int .i64 0) := (blk_cell K57.out 0).trans rfl; have f57 := blk_frozen K57.out 0; have h67 : w7.cell? ⟨g6, 0, none⟩ = some (.int .i64 0) := (blk_cell K6.out 0).trans rfl; have f67 := blk_frozen K6.out 0; clear hb hbox hg)) | ((with_reducible refine gate_store (t := 3) (p := 5) (v := .tmp 10) rfl ?_); go_must (refine store_event (t := 3) (p := 5) (v := .tmp 10) (w1 := (w7.setCell ⟨g5, 0, none⟩ (.int .i64 a))) ?hg ?ho ?hn ?hr ?_; (case ho => rfl); (case hg => rfl); (case hn => rfl); (case hr => first | (go_simp; done) | (go_simp; rfl)); intro w8 hw; have K58 := Aside0.mk (show w8.heap[g5]? = some (.cells #[.int .i64 a] 3 (0, 0)) by rw [hw]; exact blk_put K57.out 0 _ rfl); have K68 := Aside0.mk (show w8.heap[g6]? = some (.cells #[.int .i64 0] 3 (0, 0)) by rw [hw]; exact blk_far (p := ⟨g5, 0, none⟩) K6.out N56.symm _); have HB8 := Aside0.mk (show Below w5.heap.size w5 w8 by rw [hw]; exact HB7.out.setCell (p := ⟨g5, 0, none⟩) (Nat.le_of_eq G5.out.symm) _); have h68 : w8.cell? ⟨g6, 0, none⟩ = some (.int .i64 0) := (blk_cell K68.out 0).trans rfl; have f68 := blk_frozen K68.out 0; clear hw)) | ((with_reducible refine gate_store (t := 3) (p := 6) (v := .tmp 12) rfl ?_); go_must (refine store_event (t := 3) (p := 6) (v := .tmp 12) (w1 := (w8.setCell ⟨g6, 0, none⟩ (.int .i64 b))) ?hg ?ho ?hn ?hr ?_; (case ho => rfl); (case hg => rfl); (case hn => rfl); (case hr => first | (go_simp; done) | (go_simp; rfl)); intro w9 hw; have K59 := Aside0.mk (show w9.heap[g5]? = some (.cells #[.int .i64 a] 3 (0, 0)) by rw [hw]; exact blk_far (p := ⟨g6, 0, none⟩) K58.out N56 _); have K69 := Aside0.mk (show w9.heap[g6]? = some (.cells #[.int .i64 b] 3 (0, 0)) by rw [hw]; exact blk_put K68.out 0 _ rfl); have HB9 := Aside0.mk (show Below w5.heap.size w5 w9 by rw [hw]; exact HB8.out.setCell (p := ⟨g6, 0, none⟩) GL6.out _); have HM := Aside0.mk (MapAt.made w9); have HBM := Aside0.mk (below_alloc (Below.refl w9.heap.size w9) (.map #[] 0)); clear hw)) | ((with_reducible refine gate_insert (t := 183) rfl ?_); go_must (refine wpList_insert_at _ rfl _ _ _ 183 rfl 160 3 Tryd.underlying183 Tryd.underlying3 w9.heap.size _ _ _ rfl rfl rfl HM.out rfl ?_; intro w10 hat hbw; replace HM := Aside0.mk hat; replace HBM := Aside0.mk (Below.trans HBM.out (hbw _ (Nat.le_refl _))); clear hat hbw; replace h3x : w10.cell? ⟨g3, 0, none⟩ = some (.int .i64 6) := (blk_cell (blk_below (blk_below K35.out HB9.out) HBM.out) 0).trans rfl)) | (at_lookup; go_must (refine wpList_lookup_at _ rfl _ _ 183 rfl 160 3 Tryd.underlying183 Tryd.underlying3 w9.heap.size _ _ _ rfl rfl HM.out rfl ?_)) | (go_at_call 105; go_must (refine (mach_do4.calls g5 g6 a b _ ((blk_cell (blk_below K59.out HBM.out) 0).trans rfl) ((blk_cell (blk_below K69.out HBM.out) 0).trans rfl)).mono ?_; rintro e w11 ⟨he, hww⟩; rw [HN.out] at he; subst he; have HV11 := Aside0.mk (show MachAt w0 w11 g A env.length c ys.reverse by rw [hww]; exact MachAt.below (MachAt.below HV5.out HB9.out) HBM.out); clear hww; obtain ⟨A6, cp6, hbk6, hro6, hb6⟩ := HV11.out.parts; have BK := Aside0.mk hbk6; have RO := Aside0.mk hro6; have HB := Aside0.mk hb6; clear hbk6 hro6 hb6; have hc6 : w11.cell? ⟨g, 0, none⟩ = some (.slice A6 ys.length cp6) := (blk_cell BK.out 0).trans rfl; have hf6 := blk_frozen BK.out 0)) | ((with_reducible refine gate_builtin (b := .append) (xs := #[.tmp 60, .tmp 62]) rfl ?_); at_builtin; go_must (refine Kd.R_append (Kd.int .i64) (w0 := w0) w0.heap.size rfl (.tmp 60) (.tmp 62) 43 3 (.int .i64 0) 8 rfl Tryd.underlying43 info rfl (by decide) (by omega) (.slice A6 ys.length cp6) ys.reverse (n) [.int .i64 (n)] (fun _ => True) (fun _ => False) rfl rfl ?aP (fun _ hk => hk.elim) ?aF ?aO ?aB ?aS ?aL ?_; (case aP => exact rfl); (case aB => exact HB.out); (case aF => exact (fun _ _ => trivial)); (case aO => exact RO.out); (case aS => exact below_size HB.out); (case aL => have := LM.out; rw [List.length_reverse]; omega); intro v1 w8 ho hb hg hat; obtain ⟨A1, c1, rfl⟩ := Kd.R_slice ho; replace ho : Kd.R (Kd.int .i64) 3 w8 w0.heap.size (fun _ => True) (.slice A1 (ys.length + 1) c1) (ys.reverse ++ [n]) := (by rw [List.length_append, List.length_reverse] at ho; exact ho); have R1 := Aside0.mk ho; have HB8 := Aside0.mk hb; have K8 := Aside0.mk (blk_grown BK.out hg (Kd.R_ne RO.out BK.out (by decide))); clear ho hb hg hat; have hcz8 : w8.cell? ⟨g, 0, none⟩ = some (.slice A6 ys.length cp6) := (blk_cell K8.out 0).trans rfl; have hfz8 := blk_frozen K8.out 0)))
    ·
     exact ⟨rfl, .inl ⟨OV.out, rfl, HB.out⟩⟩
    ·
     exact ⟨rfl, .inl ⟨OV.out, rfl, HB.out⟩⟩
    ·
     go_end0
     exact .inr ⟨OV.out, rfl, by rw [List.reverse_cons]; exact ⟨_, blk_put K8.out 0 _ rfl, Kd.R_set R1.out K8.out (by decide) _ _, HB8.out.setCell BG.out _⟩⟩
   ·
    have hn' : (if a < b then 1 else 0) = n := hn
    have HN := Aside0.mk hn'
    clear hn hn'
    rcases htail with ⟨ov, t1⟩ | ⟨ov, t1, t2⟩ | ⟨ov, t1, t2⟩
    all_goals have OV := Aside0.mk ov
    all_goals clear ov
    all_goals go_enter Tryd.func82, Tryd.ntmps82
    all_goals go_wp2_with (first | ((with_reducible refine gate_dst (N := 3) rfl ?_); go_must (refine box_event ?hg (N := 3) ?hd (cs := #[.int .i64 7, .int .i64 v]) (t := 72) ?hr ?_; (case hd => rfl); (case hg => rfl); (case hr => first | (go_simp; done) | (go_simp; rfl)); intro g3 hg w2 hbox hb; have K3 := Aside0.mk hbox; have N3 := Aside0.mk (show g3 ≠ g by rw [hg]; exact Nat.ne_of_gt HV.out.lt); have HV2 := Aside0.mk (MachAt.below HV.out hb); clear hb hbox hg; have h20 : w2.cell? ⟨g3, 0, none⟩ = some (.int .i64 7) := (blk_cell K3.out 0).trans rfl; have h21 : w2.cell? ⟨g3, 1, none⟩ = some (.int .i64 v) := (blk_cell K3.out 1).trans rfl)) | (go_at_call 83; refine (mach_pop.calls w0 A env.length c g BG.out (ys.reverse ++ [b]) _ _ (show MachAt _ _ _ _ _ _ _ from HV2.out)).mono ?_; rintro e w4 ⟨rfl, hv, hz, hk⟩; have HV4 := Aside0.mk hv; clear hv; have K34 := Aside0.mk ((hk g3 N3.out).trans K3.out); clear hz hk K3 HV2) | (go_at_call 83; refine (mach_pop.calls w0 A env.length c g BG.out ys.reverse _ _ (show MachAt _ _ _ _ _ _ _ from HV4.out)).mono ?_; rintro e w5 ⟨rfl, hv, hz, hk⟩; have HV5 := Aside0.mk hv; clear hv; have K35 := Aside0.mk ((hk g3 N3.out).trans K34.out); clear hz hk K34 HV4) | ((with_reducible refine gate_dst (N := 5) rfl ?_); go_must (refine box_event ?hg (N := 5) ?hd (cs := #[.int .i64 0]) (t := 3) ?hr ?_; (case hd => rfl); (case hg => rfl); (case hr => first | (go_simp; done) | (go_simp; rfl)); intro g5 hg w6 hbox hb; have K5 := Aside0.mk hbox; have G5 := Aside0.mk hg; have HB6 := Aside0.mk hb; have h56 : w6.cell? ⟨g5, 0, none⟩ = some (.int .i64 0) := (blk_cell K5.out 0).trans rfl; have f56 := blk_frozen K5.out 0; clear hb hbox hg)) | ((with_reducible refine gate_dst (N := 6) rfl ?_); go_must (refine box_event ?hg (N := 6) ?hd (cs := #[.int .i64 0]) (t := 3) ?hr ?_; (case hd => rfl); (case hg => rfl); (case hr => first | (go_simp; done) | (go_simp; rfl)); intro g6 hg w7 hbox hb; have K6 := Aside0.mk hbox; have G6 := Aside0.mk hg; have K57 := Aside0.mk (blk_below K5.out hb); have HB7 := Aside0.mk (below_step HB6.out hb); have N56 : g5 ≠ g6 := (by rw [hg]; exact Nat.ne_of_lt (blk_lt K5.out)); have GL6 := Aside0.mk (show w5.heap.size ≤ g6 by rw [hg]; exact below_size HB6.out); have h57 : w7.cell? ⟨g5, 0, none⟩ = some (.int .i64 0) := (blk_cell K57.out 0).trans rfl; have f57 := blk_frozen K57.out 0; have h67 : w7.cell? ⟨g6, 0, none⟩ = some (.int .i64 0) := (blk_cell K6.out 0).trans rfl; have f67 := blk_frozen K6.out 0; clear hb hbox hg)) | ((with_reducible refine gate_store (t := 3) (p := 5) (v := .tmp 10) rfl ?_); go_must (refine store_event (t := 3) (p := 5) (v := .tmp 10) (w1 := (w7.setCell ⟨g5, 0, none⟩ (.int .i64 a))) ?hg ?ho ?hn ?hr ?_; (case ho => rfl); (case hg => rfl); (case hn => rfl); (case hr => first | (go_simp; done) | (go_simp; rfl)); intro w8 hw; have K58 := Aside0.mk (show w8.heap[g5]? = some (.cells #[.int .i64 a] 3 (0, 0)) by rw [hw]; exact blk_put K57.out 0 _ rfl); have K68 := Aside0.mk (show w8.heap[g6]? = some (.cells #[.int .i64 0] 3 (0, 0)) by rw [hw]; exact blk_far (p := ⟨g5, 0, none⟩) K6.out N56.symm _); have HB8 := Aside0.mk (show Below w5.heap.size w5 w8 by rw [hw]; exact HB7.out.setCell (p := ⟨g5, 0, none⟩) (Nat.le_of_eq G5.out.symm) _); have h68 : w8.cell? ⟨g6, 0, none⟩ = some (.int .i64 0) := (blk_cell K68.out 0).trans rfl; have f68 := blk_frozen K68.out 0; clear hw)) | ((with_reducible refine gate_store (t := 3) (p := 6) (v := .tmp 12) rfl ?_); go_must (refine store_event (t := 3) (p := 6) (v := .tmp 12) (w1 := (w8.setCell ⟨g6, 0, none⟩ (.int .i64 b))) ?hg ?ho ?hn ?hr ?_; (case ho => rfl); (case hg => rfl); (case hn => rfl); (case hr => first | (go_simp; done) | (go_simp; rfl)); intro w9 hw; have K59 := Aside0.mk (show w9.heap[g5]? = some (.cells #[.int .i64 a] 3 (0, 0)) by rw [hw]; exact blk_far (p := ⟨g6, 0, none⟩) K58.out N56 _); have K69 := Aside0.mk (show w9.heap[g6]? = some (.cells #[.int .i64 b] 3 (0, 0)) by rw [hw]; exact blk_put K68.out 0 _ rfl); have HB9 := Aside0.mk (show Below w5.heap.size w5 w9 by rw [hw]; exact HB8.out.setCell (p := ⟨g6, 0, none⟩) GL6.out _); have HM := Aside0.mk (MapAt.made w9); have HBM := Aside0.mk (below_alloc (Below.refl w9.heap.size w9) (.map #[] 0)); clear hw)) | ((with_reducible refine gate_insert (t := 183) rfl ?_); go_must (refine wpList_insert_at _ rfl _ _ _ 183 rfl 160 3 Tryd.underlying183 Tryd.underlying3 w9.heap.size _ _ _ rfl rfl rfl HM.out rfl ?_; intro w10 hat hbw; replace HM := Aside0.mk hat; replace HBM := Aside0.mk (Below.trans HBM.out (hbw _ (Nat.le_refl _))); clear hat hbw; replace h3x : w10.cell? ⟨g3, 0, none⟩ = some (.int .i64 7) := (blk_cell (blk_below (blk_below K35.out HB9.out) HBM.out) 0).trans rfl)) | (at_lookup; go_must (refine wpList_lookup_at _ rfl _ _ 183 rfl 160 3 Tryd.underlying183 Tryd.underlying3 w9.heap.size _ _ _ rfl rfl HM.out rfl ?_)) | (go_at_call 107; go_must (refine (mach_do5.calls g5 g6 a b _ ((blk_cell (blk_below K59.out HBM.out) 0).trans rfl) ((blk_cell (blk_below K69.out HBM.out) 0).trans rfl)).mono ?_; rintro e w11 ⟨he, hww⟩; rw [HN.out] at he; subst he; have HV11 := Aside0.mk (show MachAt w0 w11 g A env.length c ys.reverse by rw [hww]; exact MachAt.below (MachAt.below HV5.out HB9.out) HBM.out); clear hww; obtain ⟨A6, cp6, hbk6, hro6, hb6⟩ := HV11.out.parts; have BK := Aside0.mk hbk6; have RO := Aside0.mk hro6; have HB := Aside0.mk hb6; clear hbk6 hro6 hb6; have hc6 : w11.cell? ⟨g, 0, none⟩ = some (.slice A6 ys.length cp6) := (blk_cell BK.out 0).trans rfl; have hf6 := blk_frozen BK.out 0)) | ((with_reducible refine gate_builtin (b := .append) (xs := #[.tmp 60, .tmp 62]) rfl ?_); at_builtin; go_must (refine Kd.R_append (Kd.int .i64) (w0 := w0) w0.heap.size rfl (.tmp 60) (.tmp 62) 43 3 (.int .i64 0) 8 rfl Tryd.underlying43 info rfl (by decide) (by omega) (.slice A6 ys.length cp6) ys.reverse (n) [.int .i64 (n)] (fun _ => True) (fun _ => False) rfl rfl ?aP (fun _ hk => hk.elim) ?aF ?aO ?aB ?aS ?aL ?_; (case aP => exact rfl); (case aB => exact HB.out); (case aF => exact (fun _ _ => trivial)); (case aO => exact RO.out); (case aS => exact below_size HB.out); (case aL => have := LM.out; rw [List.length_reverse]; omega); intro v1 w8 ho hb hg hat; obtain ⟨A1, c1, rfl⟩ := Kd.R_slice ho; replace ho : Kd.R (Kd.int .i64) 3 w8 w0.heap.size (fun _ => True) (.slice A1 (ys.length + 1) c1) (ys.reverse ++ [n]) := (by rw [List.length_append, List.length_reverse] at ho; exact ho); have R1 := Aside0.mk ho; have HB8 := Aside0.mk hb; have K8 := Aside0.mk (blk_grown BK.out hg (Kd.R_ne RO.out BK.out (by decide))); clear ho hb hg hat; have hcz8 : w8.cell? ⟨g, 0, none⟩ = some (.slice A6 ys.length cp6) := (blk_cell K8.out 0).trans rfl; have hfz8 := blk_frozen K8.out 0)))
    ·
     exact ⟨rfl, .inl ⟨OV.out, rfl, HB.out⟩⟩
    ·
     exact ⟨rfl, .inl ⟨OV.out, rfl, HB.out⟩⟩
    ·
     go_end0
     exact .inr ⟨OV.out, rfl, by rw [List.reverse_cons]; exact ⟨_, blk_put K8.out 0 _ rfl, Kd.R_set R1.out K8.out (by decide) _ _, HB8.out.setCell BG.out _⟩⟩
   ·
    have hn' : (bits .and .i64 a b) = n := hn
    have HN := Aside0.mk hn'
    clear hn hn'
    rcases htail with ⟨ov, t1⟩ | ⟨ov, t1, t2⟩ | ⟨ov, t1, t2⟩
    all_goals have OV := Aside0.mk ov
    all_goals clear ov
    all_goals go_enter Tryd.func82, Tryd.ntmps82
    all_goals go_wp2_with (first | ((with_reducible refine gate_dst (N := 3) rfl ?_); go_must (refine box_event ?hg (N := 3) ?hd (cs := #[.int .i64 8, .int .i64 v]) (t := 72) ?hr ?_; (case hd => rfl); (case hg => rfl); (case hr => first | (go_simp; done) | (go_simp; rfl)); intro g3 hg w2 hbox hb; have K3 := Aside0.mk hbox; have N3 := Aside0.mk (show g3 ≠ g by rw [hg]; exact Nat.ne_of_gt HV.out.lt); have HV2 := Aside0.mk (MachAt.below HV.out hb); clear hb hbox hg; have h20 : w2.cell? ⟨g3, 0, none⟩ = some (.int .i64 8) := (blk_cell K3.out 0).trans rfl; have h21 : w2.cell? ⟨g3, 1, none⟩ = some (.int .i64 v) := (blk_cell K3.out 1).trans rfl)) | (go_at_call 83; refine (mach_pop.calls w0 A env.length c g BG.out (ys.reverse ++ [b]) _ _ (show MachAt _ _ _ _ _ _ _ from HV2.out)).mono ?_; rintro e w4 ⟨rfl, hv, hz, hk⟩; have HV4 := Aside0.mk hv; clear hv; have K34 := Aside0.mk ((hk g3 N3.out).trans K3.out); clear hz hk K3 HV2) | (go_at_call 83; refine (mach_pop.calls w0 A env.length c g BG.out ys.reverse _ _ (show MachAt _ _ _ _ _ _ _ from HV4.out)).mono ?_; rintro e w5 ⟨rfl, hv, hz, hk⟩; have HV5 := Aside0.mk hv; clear hv; have K35 := Aside0.mk ((hk g3 N3.out).trans K34.out); clear hz hk K34 HV4) | ((with_reducible refine gate_dst (N := 5) rfl ?_); go_must (refine box_event ?hg (N := 5) ?hd (cs := #[.int .i64 0]) (t := 3) ?hr ?_; (case hd => rfl); (case hg => rfl); (case hr => first | (go_simp; done) | (go_simp; rfl)); intro g5 hg w6 hbox hb; have K5 := Aside0.mk hbox; have G5 := Aside0.mk hg; have HB6 := Aside0.mk hb; have h56 : w6.cell? ⟨g5, 0, none⟩ = some (.int .i64 0) := (blk_cell K5.out 0).trans rfl; have f56 := blk_frozen K5.out 0; clear hb hbox hg)) | ((with_reducible refine gate_dst (N := 6) rfl ?_); go_must (refine box_event ?hg (N := 6) ?hd (cs := #[.int .i64 0]) (t := 3) ?hr ?_; (case hd => rfl); (case hg => rfl); (case hr => first | (go_simp; done) | (go_simp; rfl)); intro g6 hg w7 hbox hb; have K6 := Aside0.mk hbox; have G6 := Aside0.mk hg; have K57 := Aside0.mk (blk_below K5.out hb); have HB7 := Aside0.mk (below_step HB6.out hb); have N56 : g5 ≠ g6 := (by rw [hg]; exact Nat.ne_of_lt (blk_lt K5.out)); have GL6 := Aside0.mk (show w5.heap.size ≤ g6 by rw [hg]; exact below_size HB6.out); have h57 : w7.cell? ⟨g5, 0, none⟩ = some (.int .i64 0) := (blk_cell K57.out 0).trans rfl; have f57 := blk_frozen K57.out 0; have h67 : w7.cell? ⟨g6, 0, none⟩ = some (.int .i64 0) := (blk_cell K6.out 0).trans rfl; have f67 := blk_frozen K6.out 0; clear hb hbox hg)) | ((with_reducible refine gate_store (t := 3) (p := 5) (v := .tmp 10) rfl ?_); go_must (refine store_event (t := 3) (p := 5) (v := .tmp 10) (w1 := (w7.setCell ⟨g5, 0, none⟩ (.int .i64 a))) ?hg ?ho ?hn ?hr ?_; (case ho => rfl); (case hg => rfl); (case hn => rfl); (case hr => first | (go_simp; done) | (go_simp; rfl)); intro w8 hw; have K58 := Aside0.mk (show w8.heap[g5]? = some (.cells #[.int .i64 a] 3 (0, 0)) by rw [hw]; exact blk_put K57.out 0 _ rfl); have K68 := Aside0.mk (show w8.heap[g6]? = some (.cells #[.int .i64 0] 3 (0, 0)) by rw [hw]; exact blk_far (p := ⟨g5, 0, none⟩) K6.out N56.symm _); have HB8 := Aside0.mk (show Below w5.heap.size w5 w8 by rw [hw]; exact HB7.out.setCell (p := ⟨g5, 0, none⟩) (Nat.le_of_eq G5.out.symm) _); have h68 : w8.cell? ⟨g6, 0, none⟩ = some (.int .i64 0) := (blk_cell K68.out 0).trans rfl; have f68 := blk_frozen K68.out 0; clear hw)) | ((with_reducible refine gate_store (t := 3) (p := 6) (v := .tmp 12) rfl ?_); go_must (refine store_event (t := 3) (p := 6) (v := .tmp 12) (w1 := (w8.setCell ⟨g6, 0, none⟩ (.int .i64 b))) ?hg ?ho ?hn ?hr ?_; (case ho => rfl); (case hg => rfl); (case hn => rfl); (case hr => first | (go_simp; done) | (go_simp; rfl)); intro w9 hw; have K59 := Aside0.mk (show w9.heap[g5]? = some (.cells #[.int .i64 a] 3 (0, 0)) by rw [hw]; exact blk_far (p := ⟨g6, 0, none⟩) K58.out N56 _); have K69 := Aside0.mk (show w9.heap[g6]? = some (.cells #[.int .i64 b] 3 (0, 0)) by rw [hw]; exact blk_put K68.out 0 _ rfl); have HB9 := Aside0.mk (show Below w5.heap.size w5 w9 by rw [hw]; exact HB8.out.setCell (p := ⟨g6, 0, none⟩) GL6.out _); have HM := Aside0.mk (MapAt.made w9); have HBM := Aside0.mk (below_alloc (Below.refl w9.heap.size w9) (.map #[] 0)); clear hw)) | ((with_reducible refine gate_insert (t := 183) rfl ?_); go_must (refine wpList_insert_at _ rfl _ _ _ 183 rfl 160 3 Tryd.underlying183 Tryd.underlying3 w9.heap.size _ _ _ rfl rfl rfl HM.out rfl ?_; intro w10 hat hbw; replace HM := Aside0.mk hat; replace HBM := Aside0.mk (Below.trans HBM.out (hbw _ (Nat.le_refl _))); clear hat hbw; replace h3x : w10.cell? ⟨g3, 0, none⟩ = some (.int .i64 8) := (blk_cell (blk_below (blk_below K35.out HB9.out) HBM.out) 0).trans rfl)) | (at_lookup; go_must (refine wpList_lookup_at _ rfl _ _ 183 rfl 160 3 Tryd.underlying183 Tryd.underlying3 w9.heap.size _ _ _ rfl rfl HM.out rfl ?_)) | (go_at_call 108; go_must (refine (mach_do6.calls g5 g6 a b _ ((blk_cell (blk_below K59.out HBM.out) 0).trans rfl) ((blk_cell (blk_below K69.out HBM.out) 0).trans rfl)).mono ?_; rintro e w11 ⟨he, hww⟩; rw [HN.out] at he; subst he; have HV11 := Aside0.mk (show MachAt w0 w11 g A env.length c ys.reverse by rw [hww]; exact MachAt.below (MachAt.below HV5.out HB9.out) HBM.out); clear hww; obtain ⟨A6, cp6, hbk6, hro6, hb6⟩ := HV11.out.parts; have BK := Aside0.mk hbk6; have RO := Aside0.mk hro6; have HB := Aside0.mk hb6; clear hbk6 hro6 hb6; have hc6 : w11.cell? ⟨g, 0, none⟩ = some (.slice A6 ys.length cp6) := (blk_cell BK.out 0).trans rfl; have hf6 := blk_frozen BK.out 0)) | ((with_reducible refine gate_builtin (b := .append) (xs := #[.tmp 60, .tmp 62]) rfl ?_); at_builtin; go_must (refine Kd.R_append (Kd.int .i64) (w0 := w0) w0.heap.size rfl (.tmp 60) (.tmp 62) 43 3 (.int .i64 0) 8 rfl Tryd.underlying43 info rfl (by decide) (by omega) (.slice A6 ys.length cp6) ys.reverse (n) [.int .i64 (n)] (fun _ => True) (fun _ => False) rfl rfl ?aP (fun _ hk => hk.elim) ?aF ?aO ?aB ?aS ?aL ?_; (case aP => exact rfl); (case aB => exact HB.out); (case aF => exact (fun _ _ => trivial)); (case aO => exact RO.out); (case aS => exact below_size HB.out); (case aL => have := LM.out; rw [List.length_reverse]; omega); intro v1 w8 ho hb hg hat; obtain ⟨A1, c1, rfl⟩ := Kd.R_slice ho; replace ho : Kd.R (Kd.int .i64) 3 w8 w0.heap.size (fun _ => True) (.slice A1 (ys.length + 1) c1) (ys.reverse ++ [n]) := (by rw [List.length_append, List.length_reverse] at ho; exact ho); have R1 := Aside0.mk ho; have HB8 := Aside0.mk hb; have K8 := Aside0.mk (blk_grown BK.out hg (Kd.R_ne RO.out BK.out (by decide))); clear ho hb hg hat; have hcz8 : w8.cell? ⟨g, 0, none⟩ = some (.slice A6 ys.length cp6) := (blk_cell K8.out 0).trans rfl; have hfz8 := blk_frozen K8.out 0)))
    ·
     exact ⟨rfl, .inl ⟨OV.out, rfl, HB.out⟩⟩
    ·
     exact ⟨rfl, .inl ⟨OV.out, rfl, HB.out⟩⟩
    ·
     go_end0
     exact .inr ⟨OV.out, rfl, by rw [List.reverse_cons]; exact ⟨_, blk_put K8.out 0 _ rfl, Kd.R_set R1.out K8.out (by decide) _ _, HB8.out.setCell BG.out _⟩⟩
   ·
    have hn' : (bits .or .i64 a b) = n := hn
    have HN := Aside0.mk hn'
    clear hn hn'
    rcases htail with ⟨ov, t1⟩ | ⟨ov, t1, t2⟩ | ⟨ov, t1, t2⟩
    all_goals have OV := Aside0.mk ov
    all_goals clear ov
    all_goals go_enter Tryd.func82, Tryd.ntmps82
    all_goals go_wp2_with (first | ((with_reducible refine gate_dst (N := 3) rfl ?_); go_must (refine box_event ?hg (N := 3) ?hd (cs := #[.int .i64 9, .int .i64 v]) (t := 72) ?hr ?_; (case hd => rfl); (case hg => rfl); (case hr => first | (go_simp; done) | (go_simp; rfl)); intro g3 hg w2 hbox hb; have K3 := Aside0.mk hbox; have N3 := Aside0.mk (show g3 ≠ g by rw [hg]; exact Nat.ne_of_gt HV.out.lt); have HV2 := Aside0.mk (MachAt.below HV.out hb); clear hb hbox hg; have h20 : w2.cell? ⟨g3, 0, none⟩ = some (.int .i64 9) := (blk_cell K3.out 0).trans rfl; have h21 : w2.cell? ⟨g3, 1, none⟩ = some (.int .i64 v) := (blk_cell K3.out 1).trans rfl)) | (go_at_call 83; refine (mach_pop.calls w0 A env.length c g BG.out (ys.reverse ++ [b]) _ _ (show MachAt _ _ _ _ _ _ _ from HV2.out)).mono ?_; rintro e w4 ⟨rfl, hv, hz, hk⟩; have HV4 := Aside0.mk hv; clear hv; have K34 := Aside0.mk ((hk g3 N3.out).trans K3.out); clear hz hk K3 HV2) | (go_at_call 83; refine (mach_pop.calls w0 A env.length c g BG.out ys.reverse _ _ (show MachAt _ _ _ _ _ _ _ from HV4.out)).mono ?_; rintro e w5 ⟨rfl, hv, hz, hk⟩; have HV5 := Aside0.mk hv; clear hv; have K35 := Aside0.mk ((hk g3 N3.out).trans K34.out); clear hz hk K34 HV4) | ((with_reducible refine gate_dst (N := 5) rfl ?_); go_must (refine box_event ?hg (N := 5) ?hd (cs := #[.int .i64 0]) (t := 3) ?hr ?_; (case hd => rfl); (case hg => rfl); (case hr => first | (go_simp; done) | (go_simp; rfl)); intro g5 hg w6 hbox hb; have K5 := Aside0.mk hbox; have G5 := Aside0.mk hg; have HB6 := Aside0.mk hb; have h56 : w6.cell? ⟨g5, 0, none⟩ = some (.int .i64 0) := (blk_cell K5.out 0).trans rfl; have f56 := blk_frozen K5.out 0; clear hb hbox hg)) | ((with_reducible refine gate_dst (N := 6) rfl ?_); go_must (refine box_event ?hg (N := 6) ?hd (cs := #[.int .i64 0]) (t := 3) ?hr ?_; (case hd => rfl); (case hg => rfl); (case hr => first | (go_simp; done) | (go_simp; rfl)); intro g6 hg w7 hbox hb; have K6 := Aside0.mk hbox; have G6 := Aside0.mk hg; have K57 := Aside0.mk (blk_below K5.out hb); have HB7 := Aside0.mk (below_step HB6.out hb); have N56 : g5 ≠ g6 := (by rw [hg]; exact Nat.ne_of_lt (blk_lt K5.out)); have GL6 := Aside0.mk (show w5.heap.size ≤ g6 by rw [hg]; exact below_size HB6.out); have h57 : w7.cell? ⟨g5, 0, none⟩ = some (.int .i64 0) := (blk_cell K57.out 0).trans rfl; have f57 := blk_frozen K57.out 0; have h67 : w7.cell? ⟨g6, 0, none⟩ = some (.int .i64 0) := (blk_cell K6.out 0).trans rfl; have f67 := blk_frozen K6.out 0; clear hb hbox hg)) | ((with_reducible refine gate_store (t := 3) (p := 5) (v := .tmp 10) rfl ?_); go_must (refine store_event (t := 3) (p := 5) (v := .tmp 10) (w1 := (w7.setCell ⟨g5, 0, none⟩ (.int .i64 a))) ?hg ?ho ?hn ?hr ?_; (case ho => rfl); (case hg => rfl); (case hn => rfl); (case hr => first | (go_simp; done) | (go_simp; rfl)); intro w8 hw; have K58 := Aside0.mk (show w8.heap[g5]? = some (.cells #[.int .i64 a] 3 (0, 0)) by rw [hw]; exact blk_put K57.out 0 _ rfl); have K68 := Aside0.mk (show w8.heap[g6]? = some (.cells #[.int .i64 0] 3 (0, 0)) by rw [hw]; exact blk_far (p := ⟨g5, 0, none⟩) K6.out N56.symm _); have HB8 := Aside0.mk (show Below w5.heap.size w5 w8 by rw [hw]; exact HB7.out.setCell (p := ⟨g5, 0, none⟩) (Nat.le_of_eq G5.out.symm) _); have h68 : w8.cell? ⟨g6, 0, none⟩ = some (.int .i64 0) := (blk_cell K68.out 0).trans rfl; have f68 := blk_frozen K68.out 0; clear hw)) | ((with_reducible refine gate_store (t := 3) (p := 6) (v := .tmp 12) rfl ?_); go_must (refine store_event (t := 3) (p := 6) (v := .tmp 12) (w1 := (w8.setCell ⟨g6, 0, none⟩ (.int .i64 b))) ?hg ?ho ?hn ?hr ?_; (case ho => rfl); (case hg => rfl); (case hn => rfl); (case hr => first | (go_simp; done) | (go_simp; rfl)); intro w9 hw; have K59 := Aside0.mk (show w9.heap[g5]? = some (.cells #[.int .i64 a] 3 (0, 0)) by rw [hw]; exact blk_far (p := ⟨g6, 0, none⟩) K58.out N56 _); have K69 := Aside0.mk (show w9.heap[g6]? = some (.cells #[.int .i64 b] 3 (0, 0)) by rw [hw]; exact blk_put K68.out 0 _ rfl); have HB9 := Aside0.mk (show Below w5.heap.size w5 w9 by rw [hw]; exact HB8.out.setCell (p := ⟨g6, 0, none⟩) GL6.out _); have HM := Aside0.mk (MapAt.made w9); have HBM := Aside0.mk (below_alloc (Below.refl w9.heap.size w9) (.map #[] 0)); clear hw)) | ((with_reducible refine gate_insert (t := 183) rfl ?_); go_must (refine wpList_insert_at _ rfl _ _ _ 183 rfl 160 3 Tryd.underlying183 Tryd.underlying3 w9.heap.size _ _ _ rfl rfl rfl HM.out rfl ?_; intro w10 hat hbw; replace HM := Aside0.mk hat; replace HBM := Aside0.mk (Below.trans HBM.out (hbw _ (Nat.le_refl _))); clear hat hbw; replace h3x : w10.cell? ⟨g3, 0, none⟩ = some (.int .i64 9) := (blk_cell (blk_below (blk_below K35.out HB9.out) HBM.out) 0).trans rfl)) | (at_lookup; go_must (refine wpList_lookup_at _ rfl _ _ 183 rfl 160 3 Tryd.underlying183 Tryd.underlying3 w9.heap.size _ _ _ rfl rfl HM.out rfl ?_)) | (go_at_call 109; go_must (refine (mach_do7.calls g5 g6 a b _ ((blk_cell (blk_below K59.out HBM.out) 0).trans rfl) ((blk_cell (blk_below K69.out HBM.out) 0).trans rfl)).mono ?_; rintro e w11 ⟨he, hww⟩; rw [HN.out] at he; subst he; have HV11 := Aside0.mk (show MachAt w0 w11 g A env.length c ys.reverse by rw [hww]; exact MachAt.below (MachAt.below HV5.out HB9.out) HBM.out); clear hww; obtain ⟨A6, cp6, hbk6, hro6, hb6⟩ := HV11.out.parts; have BK := Aside0.mk hbk6; have RO := Aside0.mk hro6; have HB := Aside0.mk hb6; clear hbk6 hro6 hb6; have hc6 : w11.cell? ⟨g, 0, none⟩ = some (.slice A6 ys.length cp6) := (blk_cell BK.out 0).trans rfl; have hf6 := blk_frozen BK.out 0)) | ((with_reducible refine gate_builtin (b := .append) (xs := #[.tmp 60, .tmp 62]) rfl ?_); at_builtin; go_must (refine Kd.R_append (Kd.int .i64) (w0 := w0) w0.heap.size rfl (.tmp 60) (.tmp 62) 43 3 (.int .i64 0) 8 rfl Tryd.underlying43 info rfl (by decide) (by omega) (.slice A6 ys.length cp6) ys.reverse (n) [.int .i64 (n)] (fun _ => True) (fun _ => False) rfl rfl ?aP (fun _ hk => hk.elim) ?aF ?aO ?aB ?aS ?aL ?_; (case aP => exact rfl); (case aB => exact HB.out); (case aF => exact (fun _ _ => trivial)); (case aO => exact RO.out); (case aS => exact below_size HB.out); (case aL => have := LM.out; rw [List.length_reverse]; omega); intro v1 w8 ho hb hg hat; obtain ⟨A1, c1, rfl⟩ := Kd.R_slice ho; replace ho : Kd.R (Kd.int .i64) 3 w8 w0.heap.size (fun _ => True) (.slice A1 (ys.length + 1) c1) (ys.reverse ++ [n]) := (by rw [List.length_append, List.length_reverse] at ho; exact ho); have R1 := Aside0.mk ho; have HB8 := Aside0.mk hb; have K8 := Aside0.mk (blk_grown BK.out hg (Kd.R_ne RO.out BK.out (by decide))); clear ho hb hg hat; have hcz8 : w8.cell? ⟨g, 0, none⟩ = some (.slice A6 ys.length cp6) := (blk_cell K8.out 0).trans rfl; have hfz8 := blk_frozen K8.out 0)))
    ·
     exact ⟨rfl, .inl ⟨OV.out, rfl, HB.out⟩⟩
    ·
     exact ⟨rfl, .inl ⟨OV.out, rfl, HB.out⟩⟩
    ·
     go_end0
     exact .inr ⟨OV.out, rfl, by rw [List.reverse_cons]; exact ⟨_, blk_put K8.out 0 _ rfl, Kd.R_set R1.out K8.out (by decide) _ _, HB8.out.setCell BG.out _⟩⟩
 ·
  rw [if_neg k39] at h
  exact absurd h (by simp)

end Go.Proofs.YtbokbbcoekeoaaaDoor.P
end
