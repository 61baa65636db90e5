-- PACKED by pack.py of this repo: FLogicTruths
import Derived.WalkSpells
import Derived.StillTailTactics
import Derived.Test.YtbokbbcoekeoaaaDoorJ1
import Derived.Test.YtbokbbcoekeoaaaDoorJ2
import Derived.Test.YtbokbbcoekeoaaaDoorJ20
import Derived.Test.YtbokbbcoekeoaaaDoorJ4
section
namespace Go.Proofs.YtbokbbcoekeoaaaDoor.P
open Go.RowKit Go.Proofs.YtbokbbcoekeoaaaDoorW.PrintWords Go.Proofs.YtbokbbcoekeoaaaDoorW.PrintLast Go.Proofs.YtbokbbcoekeoaaaDoorW.PrintMore Go.Proofs.YtbokbbcoekeoaaaDoor.G
attribute [local go_sem] max2_int min2_int max_two min_two max_three min_three max_four min_four
set_option linter.unusedVariables false
set_option linter.unusedSimpArgs false

--IMPORT Derived.WalkSpells
--IMPORT Derived.StillTailTactics
/-- One op, from the last to the first. -/
def truths_step (o : S72) (letter : List Bool) (claim : Int) (es : List Int) (out : List Bool) (bit : Int) (i : Nat) : Option (List Bool × Int) :=
 if o.f0 = 13 then (if 0 ≤ o.f1 ∧ o.f1 < (letter.length : Int) then some (out.set i (rdOf false letter o.f1), bit) else none)
 else if o.f0 = 11 then some (out.set i true, bit)
 else if o.f0 = 12 then some (out, bit)
 else if o.f0 = 10 then (if i + 1 < out.length then some (out.set i (!(rdOf false out ((i + 1 : Nat) : Int))), bit) else none)
 else if o.f0 = 8 ∨ o.f0 = 9 then (if i + 1 < out.length ∧ i + 1 < es.length ∧ 0 ≤ es.getD (i + 1) 0 ∧ es.getD (i + 1) 0 < (out.length : Int) then some (out.set i (if o.f0 = 8 then (rdOf false out ((i + 1 : Nat) : Int) && rdOf false out (es.getD (i + 1) 0)) else (rdOf false out ((i + 1 : Nat) : Int) || rdOf false out (es.getD (i + 1) 0))), bit) else none)
 else if 1 ≤ bit ∧ bit ≤ 60 then some (out.set i (Go.bits .and .i64 (shr .i64 claim (bit - 1)) 1 == 1), bit - 1) else none
def logic_Truths.run (ops : List S72) (letter : List Bool) (claim : Int) (es : List Int) : Nat → List Bool → Int → Option (List Bool)
 | 0, out, _ => some out
 | i + 1, out, bit => (truths_step (rd_T72 ops (i : Int)) letter claim es out bit i).bind fun r => logic_Truths.run ops letter claim es i r.1 r.2
def logic_Truths.f (k : Nat) (l0 : List (S72)) (l1 : List Bool) (a2 : Int) : Option (List Bool × Int) := (logic_Ahead.f k l0 (l1.length : Int)).bind fun ps => if ps.2 = 0 ∧ 0 ≤ a2 ∧ a2 < shl .i64 1 (ps.1.length : Int) then (polish_Ends.f k l0).bind fun es => if 0 < l0.length ∧ 0 < es.1.length ∧ l0.length ≤ 100000 then (logic_Truths.run l0 l1 a2 es.1 l0.length (List.replicate l0.length false) (ps.1.length : Int)).bind fun out => some (out, 0) else none else none
theorem irow_of {w w0 : World} {ok : Nat → Prop} {g c n : Nat} {xs : List Int} (h : Kd.R (Kd.int .i64) 3 w w0.heap.size ok (.slice (some ⟨g, 0, none⟩) n c) xs) : IRow w g xs := by
 intro i hi
 obtain ⟨rfl, _, hc⟩ := Kd.R_reads' h
 obtain ⟨ad, e, hx⟩ := Kd.at_int hc (i : Int) (by omega) (by omega)
 cases e
 rw [Int.toNat_natCast] at hx
 have e : (⟨g, 0, none⟩ : Addr).add i = ⟨g, i, none⟩ := by simp [Addr.add]; omega
 rw [e] at hx
 rw [hx]
 simp [rd]
theorem logic_Truths.mono : ∀ a0 a1 a2 k, LeO (logic_Truths.f k a0 a1 a2) (logic_Truths.f (k + 1) a0 a1 a2) := by
 intro a0 a1 a2 k
 unfold logic_Truths.f
 exact LeO.bind (logic_Ahead.mono _ _ _) (fun _ => LeO.ite (LeO.bind (polish_Ends.mono _ _) (fun _ => LeO.refl _)) (LeO.refl _))
set_option maxHeartbeats 8000000 in
set_option maxRecDepth 100000 in
theorem logic_Truths.calls (k : Nat) (A0 : Option Addr) (c0 : Nat) (l0 : List (S72)) (A1 : Option Addr) (c1 : Nat) (l1 : List Bool) (a2 : Int) (r1 : List Bool) (r2 : Int) (w : World) (hr0 : Kd.C k72 w A0 l0.length l0) (hc0 : l0.length ≤ c0) (hr1 : Kd.C Kd.bool w A1 l1.length l1) (hc1 : l1.length ≤ c1) (hG_ : Glob w) (h : logic_Truths.f k l0 l1 a2 = some (r1, r2)) :
  Calls Tryd.prog 29 #[.slice A0 l0.length c0, .slice A1 l1.length c1, .int .i64 a2] w fun e w' => ∃ v0_ : Value, e = .returned (.tuple #[v0_, .int .i64 r2]) ∧ Kd.R Kd.bool 4 w' w.heap.size (fun _ => True) v0_ r1 ∧ Below w.heap.size w w' := by
 have hmf : ∀ (fn : Fn) (first cap : Array Value) (w : World), (Instr.makeFunc fn first cap).run Tryd.prog w = .ok (.func fn first cap) w := fun _ _ _ _ => rfl
 have info := (by kernel_rfl : (Tryd.prog.info? 4).map (fun i => (i.zero, i.size, i.bytes)) = some (some (.bool false), 1, 1))
 have R0 := Aside0.mk hr0
 have L0 := Aside0.mk hc0
 have R1 := Aside0.mk hr1
 have L1 := Aside0.mk hc1
 have GL := Aside0.mk hG_
 have M0 := Aside0.mk (Kd.C_max hr0)
 clear hr0 hc0 hr1 hc1 hG_
 unfold logic_Truths.f at h
 obtain ⟨⟨ps, pe⟩, hA, h⟩ := Option.bind_eq_some_iff.mp h
 by_cases c1 : pe = 0 ∧ 0 ≤ a2 ∧ a2 < shl .i64 1 (ps.length : Int)
 rotate_left
 ·
  rw [if_neg c1] at h
  exact absurd h (by simp)
 rw [if_pos c1] at h
 obtain ⟨rfl, c2, c3⟩ := c1
 have HA := Aside0.mk hA
 obtain ⟨⟨es, ee⟩, hE, h⟩ := Option.bind_eq_some_iff.mp h
 have HE := Aside0.mk hE
 clear hA hE
 by_cases c4 : 0 < l0.length ∧ 0 < es.length ∧ l0.length ≤ 100000
 rotate_left
 ·
  rw [if_neg c4] at h
  exact absurd h (by simp)
 rw [if_pos c4] at h
 have LP := Aside0.mk c4.1
 have LE := Aside0.mk c4.2.1
 have LX := Aside0.mk c4.2.2
 obtain ⟨out, hR, h⟩ := Option.bind_eq_some_iff.mp h
 obtain ⟨rfl, rfl⟩ := Prod.mk.inj (Option.some.inj h)
 have HR := Aside0.mk hR
 clear h hR c4
 obtain ⟨ji, hji⟩ : ∃ j_ : Int, (shl .i64 1 (ps.length : Int)) = j_ := ⟨_, rfl⟩
 rw [hji] at c3
 have b2 : decide (a2 < 0) = false := decide_eq_false (by omega)
 have b3 : decide (a2 ≥ ji) = false := decide_eq_false (by omega)
 clear c2 c3
 have hji6_ : (IntKind.i64.wrap (1 * 2 ^ min (ps.length : Int).toNat 64)) = ji := hji
 have hji6p : (IntKind.i64.wrap (1 * 2 ^ min ps.length 64)) = ji := hji6_
 have hji6r : (IntKind.i64.wrap (2 ^ min ps.length 64)) = ji := by have h_ := hji6p; rw [Int.one_mul] at h_; exact h_
 have hpl : (0 : Int) ≤ (ps.length : Int) := by omega
 have hpl' := eq_true hpl
 go_enter Tryd.func29, Tryd.ntmps29
 go_wp2_with (first | (go_at_call 36; go_must (refine (logic_Ahead.calls k A0 c0 l0 (l1.length : Int) ps 0 w R0.out L0.out GL.out HA.out).mono ?_; rintro e w1 ⟨v0, rfl, ho, hb⟩; obtain ⟨Ap, cp, rfl⟩ := Kd.R_slice ho; have HB1 := Aside0.mk hb; clear ho hb)) | (go_at_call 55; go_must (refine (polish_Ends.calls k A0 c0 l0 es ee w1 (Kd.C_below R0.out HB1.out) L0.out (Glob.below GL.out HB1.out) HE.out).mono ?_; rintro e w2 ⟨v0, rfl, ho, hb⟩; obtain ⟨ge, ce, he6, hge, hgl, cge, hgc⟩ := Kd.R_form ho LE.out; subst he6; have KE2 := Aside0.mk hgc; have IE2 := Aside0.mk (irow_of ho); have HB2 := Aside0.mk (below_step HB1.out hb); clear ho hb hge hgl hgc)) | ((with_reducible refine gate_dst (N := 10) rfl ?_); go_must (refine box_event ?hg (N := 10) ?hd (cs := #[.slice none 0 0]) (t := 43) ?hr ?_; (case hd => rfl); (case hg => rfl); (case hr => first | (go_simp; done) | (go_simp; rfl)); intro g10 hg w3 hbox hb; have K10 := Aside0.mk hbox; have HB3 := Aside0.mk (below_step HB2.out hb); have KE3 := Aside0.mk (blk_below KE2.out hb); have IE3 := Aside0.mk (IRow.of IE2.out (hb.block _ (blk_lt KE2.out))); have G10 := Aside0.mk (show w.heap.size ≤ g10 by rw [hg]; exact below_size HB2.out); have h3 : w3.cell? ⟨g10, 0, none⟩ = some (.slice none 0 0) := (blk_cell K10.out 0).trans rfl; have f3 := blk_frozen K10.out 0; clear hb hbox hg)) | ((with_reducible refine gate_store (t := 43) (p := 10) (v := .tmp 39) rfl ?_); go_must (refine store_event (t := 43) (p := 10) (v := .tmp 39) (w1 := w3.setCell ⟨g10, 0, none⟩ (.slice (some ⟨ge, 0, none⟩) es.length ce)) ?hg ?ho ?hn ?hr ?_; (case ho => rfl); (case hg => rfl); (case hn => rfl); (case hr => first | (go_simp; done) | (go_simp; rfl)); intro w4 hw; have K104 := Aside0.mk (show w4.heap[g10]? = some (.cells #[.slice (some ⟨ge, 0, none⟩) es.length ce] 43 (0, 0)) by rw [hw]; exact blk_put K10.out 0 _ rfl); have HB4 := Aside0.mk (show Below w.heap.size w w4 by rw [hw]; exact HB3.out.setCell (p := ⟨g10, 0, none⟩) G10.out _); have N10 := blk_ne KE3.out K10.out (by decide); have IE4 := Aside0.mk (show IRow w4 ge es by rw [hw]; exact IRow.of IE3.out (Below.heap_setCell w3 ⟨g10, 0, none⟩ _ ge N10)); have KE4 := Aside0.mk (show w4.heap[ge]? = some (.cells cge 3 (0, 0)) by rw [hw]; exact blk_far (p := ⟨g10, 0, none⟩) KE3.out N10 _); clear N10; clear hw)) | ((with_reducible refine gate_dst (N := 43) rfl ?_); go_must (refine Kd.R_make Kd.bool w.heap.size 4 rfl (N := 43) rfl 58 _ _ rfl (l0.length : Int) rfl rfl Tryd.underlying58 (.bool false) 1 info rfl (by decide) (by omega) false (ok := fun _ => True) (okp := fun _ => True) rfl (fun _ hk => hk) trivial (by omega) (by have := LX.out; omega) HB4.out (below_size HB4.out) ?_; intro v5 w5 ho hb hg_ hnew_; rw [Int.toNat_natCast] at ho; obtain ⟨go, co, he6, hgo, hgl, cgo, hgc⟩ := Kd.R_form ho (by rw [List.length_replicate]; exact LP.out); rw [List.length_replicate] at he6; subst he6; have RO5 := Aside0.mk ho; have KO5 := Aside0.mk hgc; have K105 := Aside0.mk (blk_grown K104.out hg_ (by simp)); have KE5 := Aside0.mk (blk_grown KE4.out hg_ (by simp)); have IE5 := Aside0.mk (IRow.of IE4.out (hg_.block _ (blk_lt KE4.out) (by simp))); have HB5 := Aside0.mk hb; clear ho hb hg_ hnew_ hgo hgl hgc)) | ((with_reducible refine gate_dst (N := 12) rfl ?_); go_must (refine box_event ?hg (N := 12) ?hd (cs := #[.slice none 0 0]) (t := 58) ?hr ?_; (case hd => rfl); (case hg => rfl); (case hr => first | (go_simp; done) | (go_simp; rfl)); intro g12 hg w6 hbox hb; have K12 := Aside0.mk hbox; have HB6 := Aside0.mk (below_step HB5.out hb); have KE6 := Aside0.mk (blk_below KE5.out hb); have KO6 := Aside0.mk (blk_below KO5.out hb); have IE6 := Aside0.mk (IRow.of IE5.out (hb.block _ (blk_lt KE5.out))); have RO6 := Aside0.mk (Kd.R_below RO5.out hb); have K106 := Aside0.mk (blk_below K105.out hb); have G12 := Aside0.mk (show w.heap.size ≤ g12 by rw [hg]; exact below_size HB5.out); have h6 : w6.cell? ⟨g12, 0, none⟩ = some (.slice none 0 0) := (blk_cell K12.out 0).trans rfl; have f6 := blk_frozen K12.out 0; clear hb hbox hg)) | ((with_reducible refine gate_store (t := 58) (p := 12) (v := .tmp 43) rfl ?_); go_must (refine store_event (t := 58) (p := 12) (v := .tmp 43) (w1 := w6.setCell ⟨g12, 0, none⟩ (.slice (some ⟨go, 0, none⟩) l0.length co)) ?hg ?ho ?hn ?hr ?_; (case ho => rfl); (case hg => rfl); (case hn => rfl); (case hr => first | (go_simp; done) | (go_simp; rfl)); intro w7 hw; have K127 := Aside0.mk (show w7.heap[g12]? = some (.cells #[.slice (some ⟨go, 0, none⟩) l0.length co] 58 (0, 0)) by rw [hw]; exact blk_put K12.out 0 _ rfl); have HB7 := Aside0.mk (show Below w.heap.size w w7 by rw [hw]; exact HB6.out.setCell (p := ⟨g12, 0, none⟩) G12.out _); have N1 := blk_ne KE6.out K12.out (by decide); have N2 := blk_ne K106.out K12.out (by decide); have N3 := blk_ne KO6.out K12.out (by decide); have IE7 := Aside0.mk (show IRow w7 ge es by rw [hw]; exact IRow.of IE6.out (Below.heap_setCell w6 ⟨g12, 0, none⟩ _ ge N1)); have KE7 := Aside0.mk (show w7.heap[ge]? = some (.cells cge 3 (0, 0)) by rw [hw]; exact blk_far (p := ⟨g12, 0, none⟩) KE6.out N1 _); have KO7 := Aside0.mk (show w7.heap[go]? = some (.cells cgo 4 (0, 0)) by rw [hw]; exact blk_far (p := ⟨g12, 0, none⟩) KO6.out N3 _); have K107 := Aside0.mk (show w7.heap[g10]? = some (.cells #[.slice (some ⟨ge, 0, none⟩) es.length ce] 43 (0, 0)) by rw [hw]; exact blk_far (p := ⟨g12, 0, none⟩) K106.out N2 _); have RO7 := Aside0.mk (show Kd.R Kd.bool 4 w7 w.heap.size (fun _ => True) (.slice (some ⟨go, 0, none⟩) l0.length co) (List.replicate l0.length false) by rw [hw]; exact Kd.R_set RO6.out K12.out (by decide) _ _); clear N1 N2 N3; clear hw)) | ((with_reducible refine gate_dst (N := 14) rfl ?_); go_must (refine box_event ?hg (N := 14) ?hd (cs := #[.int .i64 0]) (t := 3) ?hr ?_; (case hd => rfl); (case hg => rfl); (case hr => first | (go_simp; done) | (go_simp; rfl)); intro g14 hg w8 hbox hb; have HT8 := Aside0.mk (show TrAt w w8 g10 g12 g14 ge go ce co es (List.replicate l0.length false) 0 from ⟨blk_below K107.out hb, by rw [List.length_replicate]; exact blk_below K127.out hb, hbox, IRow.of IE7.out (hb.block _ (blk_lt KE7.out)), Nat.lt_of_lt_of_le (blk_lt KE7.out) (below_size hb), by rw [List.length_replicate]; exact Kd.R_below RO7.out hb, below_step HB7.out hb, by rw [hg]; exact below_size HB7.out, by rw [hg]; exact (Nat.ne_of_lt (blk_lt KE7.out)).symm, (blk_ne KE7.out KO7.out (by decide)).symm⟩); have h8 : w8.cell? ⟨g14, 0, none⟩ = some (.int .i64 0) := (blk_cell HT8.out.b14 0).trans rfl; have f8 := blk_frozen HT8.out.b14 0; clear hb hbox hg)) | ((with_reducible refine gate_store (t := 3) (p := 14) (v := .tmp 48) rfl ?_); go_must (refine store_event (t := 3) (p := 14) (v := .tmp 48) (w1 := w8.setCell ⟨g14, 0, none⟩ (.int .i64 (wrap64 ((l0.length : Int) - 1)))) ?hg ?ho ?hn ?hr ?_; (case ho => rfl); (case hg => rfl); (case hn => rfl); (case hr => first | (go_simp; done) | (go_simp; rfl)); intro w9 hw; have HT9 := Aside0.mk (show TrAt w w9 g10 g12 g14 ge go ce co es (List.replicate l0.length false) (wrap64 ((l0.length : Int) - 1)) by rw [hw]; exact HT8.out.move _); clear hw)))
 have E64 := Aside0.mk (show wrap64 ((l0.length : Int) - 1) = (l0.length : Int) - 1 by have := LX.out; unfold wrap64; omega)
 have HT9' := Aside0.mk (show TrAt w w9 g10 g12 g14 ge go ce co es (List.replicate l0.length false) ((l0.length : Int) - 1) by rw [← E64.out]; exact HT9.out)
 simp only [Act.put, List.setIfInBounds_toArray, List.set_cons_zero, List.set_cons_succ]
 go_loopg [13, 14] l0.length (fun kq v13 v14 wr => ∃ (g : Nat) (bit : Int) (outq : List Bool), v13 = .int .i64 bit ∧ v14 = .pointer (some ⟨g, 0, none⟩) ∧ outq.length = l0.length ∧ kq ≤ l0.length ∧ Aside0 (logic_Truths.run l0 l1 a2 es kq outq bit = some out) ∧ Aside0 (TrAt w wr g10 g12 g ge go ce co es outq ((kq : Int) - 1)))
 case atStart => exact ⟨g14, (ps.length : Int), List.replicate l0.length false, rfl, rfl, List.length_replicate, Nat.le_refl _, HR, HT9'⟩
 case round =>
  clear HR HT9 HT9' E64 HT8 h8 f8
  obtain ⟨g, bit, outq, rfl, rfl, hlq, hk, HR, HT⟩ := hrel
  have LQ := Aside0.mk hlq
  have LK := Aside0.mk hk
  have LO := Aside0.mk (show 0 < outq.length by rw [hlq]; exact LP.out)
  generalize hx : (gk : Int) - 1 = x at *
  have HX := Aside0.mk hx
  clear hlq hk hx
  have h14 : wr.cell? ⟨g, 0, none⟩ = some (.int .i64 x) := (blk_cell HT.out.b14 0).trans rfl
  have h12 : wr.cell? ⟨g12, 0, none⟩ = some (.slice (some ⟨go, 0, none⟩) outq.length co) := (blk_cell HT.out.b12 0).trans rfl
  have h10 : wr.cell? ⟨g10, 0, none⟩ = some (.slice (some ⟨ge, 0, none⟩) es.length ce) := (blk_cell HT.out.b10 0).trans rfl
  cases gk with
  | zero =>
   have hx0 : decide (x ≥ 0) = false := decide_eq_false (by have := HX.out; omega)
   have hr := HR.out
   obtain rfl := Option.some.inj hr
   clear hr
   go_wp2
   go_ret2
   exact ⟨_, rfl, HT.out.row, HT.out.bel⟩
  | succ i =>
   have hx0 : decide (x ≥ 0) = true := decide_eq_true (by have := HX.out; omega)
   have p0 : 0 ≤ x := of_decide_eq_true hx0
   have p1 : x < (l0.length : Int) := by have := HX.out; have := LK.out; omega
   have p2 : x < (outq.length : Int) := by rw [LQ.out]; exact p1
   have HXI := Aside0.mk (show x.toNat = i by have := HX.out; omega)
   have HW := Aside0.mk (show wrap64 (x - 1) = (i : Int) - 1 by have := HX.out; have := LK.out; have := LX.out; unfold wrap64; omega)
   obtain ⟨ad, eA, hy0, hy1⟩ := at_T72 (Kd.C_below R0.out HT.out.bel) x p0 p1
   cases eA
   obtain ⟨ao, eo, hz0⟩ := Kd.at_bool (Kd.R_reads' HT.out.row).2.2 x p0 p2
   cases eo
   simp only [add_plain] at hz0
   have fz : ∀ j, wr.frozen? ⟨go, j, none⟩ = false := fun j => blk_frozen (HT.out.blk LO.out).1.choose_spec j
   have hr := HR.out
   rw [logic_Truths.run, show (i : Int) = x by have := HX.out; omega] at hr
   generalize hop : rd_T72 l0 x = op at *
   obtain ⟨kd, vl⟩ := op
   obtain ⟨⟨o1, b1⟩, hs, hn⟩ := Option.bind_eq_some_iff.mp hr
   have HN := Aside0.mk hn
   have QL := Aside0.mk p1
   have QO := Aside0.mk p2
   have q0 := eq_true p0
   have q1 := eq_true p1
   have q2 := eq_true p2
   clear hr hn hop HR p0 p1 p2
   unfold truths_step at hs
   simp only at hs
   by_cases k13 : kd = 13
   ·
    subst k13
    rw [if_pos rfl] at hs
    by_cases hv : 0 ≤ vl ∧ vl < (l1.length : Int)
    ·
     rw [if_pos hv] at hs
     obtain ⟨rfl, rfl⟩ := Prod.mk.inj (Option.some.inj hs)
     obtain ⟨a1, e1, hl0⟩ := Kd.at_bool (Kd.C_below R1.out HT.out.bel) vl hv.1 hv.2
     cases e1
     have v0 := eq_true hv.1
     have v1 := eq_true hv.2
     clear hv hs
     go_wp2
     go_still_tail 11, (by kernel_rfl)
     change wpList _ _ _ _ _ wr.drew
     have HTd := Aside0.mk (HT.out.drewN 1)
     replace HTd : Aside0 (TrAt w wr.drew g10 g12 g ge go ce co es outq x) := HTd
     replace hz0 : wr.drew.cell? _ = _ := hz0
     replace fz : ∀ j, wr.drew.frozen? ⟨go, j, none⟩ = false := fz
     clear h14 h12 h10 HT hy0 hy1 hl0
     generalize wr.drew = w10 at *
     go_wp2_with (first | ((with_reducible refine gate_store (t := 4) (p := 82) (v := .tmp 81) rfl ?_); go_must (refine store_event (t := 4) (p := 82) (v := .tmp 81) (w1 := (w10.setCell ⟨go, x.toNat, none⟩ (.bool (rdOf false l1 vl)))) ?hg ?ho ?hn ?hr ?_; (case ho => rfl); (case hg => rfl); (case hn => rfl); (case hr => first | (go_simp; done) | (go_simp; rfl)); intro w12 hw; have HTs := Aside0.mk (show TrAt w w12 g10 g12 g ge go ce co es (outq.set i (rdOf false l1 vl)) x by rw [hw, HXI.out]; exact HTd.out.put LO.out i _); have hs14 : w12.cell? ⟨g, 0, none⟩ = some (.int .i64 x) := (blk_cell HTs.out.b14 0).trans rfl; clear hw)) | ((with_reducible refine gate_dst (N := 14) rfl ?_); go_must (refine box_event ?hg (N := 14) ?hd (cs := #[.int .i64 0]) (t := 3) ?hr ?_; (case hd => rfl); (case hg => rfl); (case hr => first | (go_simp; done) | (go_simp; rfl)); intro gn hg w13 hbox hb; have HT13 := Aside0.mk (HTs.out.fresh hg hbox hb); have h13 : w13.cell? ⟨gn, 0, none⟩ = some (.int .i64 0) := (blk_cell HT13.out.b14 0).trans rfl; have f13 := blk_frozen HT13.out.b14 0; clear hb hbox hg)) | ((with_reducible refine gate_store (t := 3) (p := 14) (v := .tmp 120) rfl ?_); go_must (refine store_event (t := 3) (p := 14) (v := .tmp 120) (w1 := w13.setCell ⟨gn, 0, none⟩ (.int .i64 x)) ?hg ?ho ?hn ?hr ?_; (case ho => rfl); (case hg => rfl); (case hn => rfl); (case hr => first | (go_simp; done) | (go_simp; rfl)); intro w14 hw; have HT14 := Aside0.mk (show TrAt w w14 g10 g12 gn ge go ce co es _ x by rw [hw]; exact HT13.out.move x); have h14n : w14.cell? ⟨gn, 0, none⟩ = some (.int .i64 x) := (blk_cell HT14.out.b14 0).trans rfl; have f14n := blk_frozen HT14.out.b14 0; clear hw)) | ((with_reducible refine gate_store (t := 3) (p := 14) (v := .tmp 52) rfl ?_); go_must (refine store_event (t := 3) (p := 14) (v := .tmp 52) (w1 := w14.setCell ⟨gn, 0, none⟩ (.int .i64 (wrap64 (x - 1)))) ?hg ?ho ?hn ?hr ?_; (case ho => rfl); (case hg => rfl); (case hn => rfl); (case hr => first | (go_simp; done) | (go_simp; rfl)); intro w15 hw; have HT15 := Aside0.mk (show TrAt w w15 g10 g12 gn ge go ce co es _ ((i : Int) - 1) by rw [hw, ← HW.out]; exact HT14.out.move _); clear hw)))
     go_roundg i
     case measure => omega
     case rel => exact ⟨gn, bit, outq.set i (rdOf false l1 vl), rfl, rfl, (by first | exact LQ.out | (rw [List.length_set]; exact LQ.out)), (by have := LK.out; omega), HN, HT15⟩
    ·
     rw [if_neg hv] at hs
     exact absurd hs (by simp)
   ·
    rw [if_neg k13] at hs
    by_cases k11 : kd = 11
    ·
     subst k11
     rw [if_pos rfl] at hs
     obtain ⟨rfl, rfl⟩ := Prod.mk.inj (Option.some.inj hs)
     clear hs k13
     go_wp2_with (first | ((with_reducible refine gate_store (t := 4) (p := 87) (v := (.const (.bool true))) rfl ?_); go_must (refine store_event (t := 4) (p := 87) (v := (.const (.bool true))) (w1 := (wr.setCell ⟨go, x.toNat, none⟩ (.bool (true)))) ?hg ?ho ?hn ?hr ?_; (case ho => rfl); (case hg => rfl); (case hn => rfl); (case hr => first | (go_simp; done) | (go_simp; rfl)); intro w12 hw; have HTs := Aside0.mk (show TrAt w w12 g10 g12 g ge go ce co es (outq.set i (true)) x by rw [hw, HXI.out]; exact HT.out.put LO.out i _); have hs14 : w12.cell? ⟨g, 0, none⟩ = some (.int .i64 x) := (blk_cell HTs.out.b14 0).trans rfl; clear hw)) | ((with_reducible refine gate_dst (N := 14) rfl ?_); go_must (refine box_event ?hg (N := 14) ?hd (cs := #[.int .i64 0]) (t := 3) ?hr ?_; (case hd => rfl); (case hg => rfl); (case hr => first | (go_simp; done) | (go_simp; rfl)); intro gn hg w13 hbox hb; have HT13 := Aside0.mk (HTs.out.fresh hg hbox hb); have h13 : w13.cell? ⟨gn, 0, none⟩ = some (.int .i64 0) := (blk_cell HT13.out.b14 0).trans rfl; have f13 := blk_frozen HT13.out.b14 0; clear hb hbox hg)) | ((with_reducible refine gate_store (t := 3) (p := 14) (v := .tmp 120) rfl ?_); go_must (refine store_event (t := 3) (p := 14) (v := .tmp 120) (w1 := w13.setCell ⟨gn, 0, none⟩ (.int .i64 x)) ?hg ?ho ?hn ?hr ?_; (case ho => rfl); (case hg => rfl); (case hn => rfl); (case hr => first | (go_simp; done) | (go_simp; rfl)); intro w14 hw; have HT14 := Aside0.mk (show TrAt w w14 g10 g12 gn ge go ce co es _ x by rw [hw]; exact HT13.out.move x); have h14n : w14.cell? ⟨gn, 0, none⟩ = some (.int .i64 x) := (blk_cell HT14.out.b14 0).trans rfl; have f14n := blk_frozen HT14.out.b14 0; clear hw)) | ((with_reducible refine gate_store (t := 3) (p := 14) (v := .tmp 52) rfl ?_); go_must (refine store_event (t := 3) (p := 14) (v := .tmp 52) (w1 := w14.setCell ⟨gn, 0, none⟩ (.int .i64 (wrap64 (x - 1)))) ?hg ?ho ?hn ?hr ?_; (case ho => rfl); (case hg => rfl); (case hn => rfl); (case hr => first | (go_simp; done) | (go_simp; rfl)); intro w15 hw; have HT15 := Aside0.mk (show TrAt w w15 g10 g12 gn ge go ce co es _ ((i : Int) - 1) by rw [hw, ← HW.out]; exact HT14.out.move _); clear hw)))
     go_roundg i
     case measure => omega
     case rel => exact ⟨gn, bit, outq.set i true, rfl, rfl, (by first | exact LQ.out | (rw [List.length_set]; exact LQ.out)), (by have := LK.out; omega), HN, HT15⟩
    ·
     rw [if_neg k11] at hs
     by_cases k12 : kd = 12
     ·
      subst k12
      rw [if_pos rfl] at hs
      obtain ⟨rfl, rfl⟩ := Prod.mk.inj (Option.some.inj hs)
      clear hs k13 k11
      have HTs := HT
      go_wp2_with (first | ((with_reducible refine gate_dst (N := 14) rfl ?_); go_must (refine box_event ?hg (N := 14) ?hd (cs := #[.int .i64 0]) (t := 3) ?hr ?_; (case hd => rfl); (case hg => rfl); (case hr => first | (go_simp; done) | (go_simp; rfl)); intro gn hg w13 hbox hb; have HT13 := Aside0.mk (HTs.out.fresh hg hbox hb); have h13 : w13.cell? ⟨gn, 0, none⟩ = some (.int .i64 0) := (blk_cell HT13.out.b14 0).trans rfl; have f13 := blk_frozen HT13.out.b14 0; clear hb hbox hg)) | ((with_reducible refine gate_store (t := 3) (p := 14) (v := .tmp 120) rfl ?_); go_must (refine store_event (t := 3) (p := 14) (v := .tmp 120) (w1 := w13.setCell ⟨gn, 0, none⟩ (.int .i64 x)) ?hg ?ho ?hn ?hr ?_; (case ho => rfl); (case hg => rfl); (case hn => rfl); (case hr => first | (go_simp; done) | (go_simp; rfl)); intro w14 hw; have HT14 := Aside0.mk (show TrAt w w14 g10 g12 gn ge go ce co es _ x by rw [hw]; exact HT13.out.move x); have h14n : w14.cell? ⟨gn, 0, none⟩ = some (.int .i64 x) := (blk_cell HT14.out.b14 0).trans rfl; have f14n := blk_frozen HT14.out.b14 0; clear hw)) | ((with_reducible refine gate_store (t := 3) (p := 14) (v := .tmp 52) rfl ?_); go_must (refine store_event (t := 3) (p := 14) (v := .tmp 52) (w1 := w14.setCell ⟨gn, 0, none⟩ (.int .i64 (wrap64 (x - 1)))) ?hg ?ho ?hn ?hr ?_; (case ho => rfl); (case hg => rfl); (case hn => rfl); (case hr => first | (go_simp; done) | (go_simp; rfl)); intro w15 hw; have HT15 := Aside0.mk (show TrAt w w15 g10 g12 gn ge go ce co es _ ((i : Int) - 1) by rw [hw, ← HW.out]; exact HT14.out.move _); clear hw)))
      go_roundg i
      case measure => omega
      case rel => exact ⟨gn, bit, outq, rfl, rfl, (by first | exact LQ.out | (rw [List.length_set]; exact LQ.out)), (by have := LK.out; omega), HN, HT15⟩
     ·
      rw [if_neg k12] at hs
      by_cases k10 : kd = 10
      ·
       subst k10
       rw [if_pos rfl] at hs
       by_cases hv : i + 1 < outq.length
       ·
        rw [if_pos hv, show ((i + 1 : Nat) : Int) = x + 1 by have := HX.out; omega] at hs
        obtain ⟨rfl, rfl⟩ := Prod.mk.inj (Option.some.inj hs)
        have n0 : 0 ≤ x + 1 := by have := HX.out; omega
        have n1 : x + 1 < (outq.length : Int) := by have := HX.out; omega
        have HW1 := Aside0.mk (show wrap64 (x + 1) = x + 1 by have := HX.out; have := LK.out; have := LX.out; unfold wrap64; omega)
        obtain ⟨ao, eo, hz1⟩ := Kd.at_bool (Kd.R_reads' HT.out.row).2.2 (x + 1) n0 n1
        cases eo
        have CF := Aside0.mk (truths_first.calls g12 g outq.length co ⟨go, 0, none⟩ x _ wr.drew h12 h14 hz1 HW1.out n0 n1)
        clear hv hs n0 n1 hz1 k13 k11 k12
        go_wp2
        go_still_tail 6, (by kernel_rfl)
        still_call CF.out
        repeat still_step
        (try refine wpStill_nil ?_)
        change wpList _ _ _ _ _ wr.drew
        have HTd : Aside0 (TrAt w wr.drew g10 g12 g ge go ce co es outq x) := Aside0.mk (HT.out.drewN 1)
        replace hz0 : wr.drew.cell? _ = _ := hz0
        replace fz : ∀ j, wr.drew.frozen? ⟨go, j, none⟩ = false := fz
        clear h14 h12 h10 HT hy0 hy1 CF
        generalize wr.drew = w10 at *
        go_wp2_with (first | ((with_reducible refine gate_store (t := 4) (p := 97) (v := .tmp 96) rfl ?_); go_must (refine store_event (t := 4) (p := 97) (v := .tmp 96) (w1 := (w10.setCell ⟨go, x.toNat, none⟩ (.bool (!(rdOf false outq (x + 1)))))) ?hg ?ho ?hn ?hr ?_; (case ho => rfl); (case hg => rfl); (case hn => rfl); (case hr => first | (go_simp; done) | (go_simp; rfl)); intro w12 hw; have HTs := Aside0.mk (show TrAt w w12 g10 g12 g ge go ce co es (outq.set i (!(rdOf false outq (x + 1)))) x by rw [hw, HXI.out]; exact HTd.out.put LO.out i _); have hs14 : w12.cell? ⟨g, 0, none⟩ = some (.int .i64 x) := (blk_cell HTs.out.b14 0).trans rfl; clear hw)) | ((with_reducible refine gate_dst (N := 14) rfl ?_); go_must (refine box_event ?hg (N := 14) ?hd (cs := #[.int .i64 0]) (t := 3) ?hr ?_; (case hd => rfl); (case hg => rfl); (case hr => first | (go_simp; done) | (go_simp; rfl)); intro gn hg w13 hbox hb; have HT13 := Aside0.mk (HTs.out.fresh hg hbox hb); have h13 : w13.cell? ⟨gn, 0, none⟩ = some (.int .i64 0) := (blk_cell HT13.out.b14 0).trans rfl; have f13 := blk_frozen HT13.out.b14 0; clear hb hbox hg)) | ((with_reducible refine gate_store (t := 3) (p := 14) (v := .tmp 120) rfl ?_); go_must (refine store_event (t := 3) (p := 14) (v := .tmp 120) (w1 := w13.setCell ⟨gn, 0, none⟩ (.int .i64 x)) ?hg ?ho ?hn ?hr ?_; (case ho => rfl); (case hg => rfl); (case hn => rfl); (case hr => first | (go_simp; done) | (go_simp; rfl)); intro w14 hw; have HT14 := Aside0.mk (show TrAt w w14 g10 g12 gn ge go ce co es _ x by rw [hw]; exact HT13.out.move x); have h14n : w14.cell? ⟨gn, 0, none⟩ = some (.int .i64 x) := (blk_cell HT14.out.b14 0).trans rfl; have f14n := blk_frozen HT14.out.b14 0; clear hw)) | ((with_reducible refine gate_store (t := 3) (p := 14) (v := .tmp 52) rfl ?_); go_must (refine store_event (t := 3) (p := 14) (v := .tmp 52) (w1 := w14.setCell ⟨gn, 0, none⟩ (.int .i64 (wrap64 (x - 1)))) ?hg ?ho ?hn ?hr ?_; (case ho => rfl); (case hg => rfl); (case hn => rfl); (case hr => first | (go_simp; done) | (go_simp; rfl)); intro w15 hw; have HT15 := Aside0.mk (show TrAt w w15 g10 g12 gn ge go ce co es _ ((i : Int) - 1) by rw [hw, ← HW.out]; exact HT14.out.move _); clear hw)))
        go_roundg i
        case measure => omega
        case rel => exact ⟨gn, bit, outq.set i (!(rdOf false outq (x + 1))), rfl, rfl, (by first | exact LQ.out | (rw [List.length_set]; exact LQ.out)), (by have := LK.out; omega), HN, HT15⟩
       ·
        rw [if_neg hv] at hs
        exact absurd hs (by simp)
      ·
       rw [if_neg k10] at hs
       by_cases k89 : kd = 8 ∨ kd = 9
       ·
        rw [if_pos k89] at hs
        by_cases hv : i + 1 < outq.length ∧ i + 1 < es.length ∧ 0 ≤ es.getD (i + 1) 0 ∧ es.getD (i + 1) 0 < (outq.length : Int)
        ·
         rw [if_pos hv, show ((i + 1 : Nat) : Int) = x + 1 by have := HX.out; omega] at hs
         obtain ⟨v1, v2, v3, v4⟩ := hv
         have he := HT.out.ends (i + 1) v2
         generalize es.getD (i + 1) 0 = e2 at *
         have n0 : 0 ≤ x + 1 := by have := HX.out; omega
         have n1 : x + 1 < (outq.length : Int) := by have := HX.out; omega
         have n2 : x + 1 < (es.length : Int) := by have := HX.out; omega
         have HW1 := Aside0.mk (show wrap64 (x + 1) = x + 1 by have := HX.out; have := LK.out; have := LX.out; unfold wrap64; omega)
         have he1 : wr.cell? ((⟨ge, 0, none⟩ : Addr).add (x + 1).toNat) = some (.int .i64 e2) := by rw [add_plain, show (x + 1).toNat = i + 1 by have := HX.out; omega]; exact he
         obtain ⟨ao, eo, hz1⟩ := Kd.at_bool (Kd.R_reads' HT.out.row).2.2 (x + 1) n0 n1
         cases eo
         obtain ⟨ao, eo, hz2⟩ := Kd.at_bool (Kd.R_reads' HT.out.row).2.2 e2 v3 v4
         cases eo
         generalize hb1 : rdOf false outq (x + 1) = t1 at *
         generalize hb2 : rdOf false outq e2 = t2 at *
         have CF := Aside0.mk (fun m : Nat => truths_first.calls g12 g outq.length co ⟨go, 0, none⟩ x t1 (wr.drewN m) h12 h14 hz1 HW1.out n0 n1)
         have CS := Aside0.mk (fun m : Nat => truths_second.calls g12 g10 g outq.length co es.length ce ⟨go, 0, none⟩ ⟨ge, 0, none⟩ x e2 t2 (wr.drewN m) h12 h10 h14 he1 hz2 HW1.out n0 n2 v3 v4)
         clear he he1 n0 n1 n2 hz1 hz2 v1 v2 v3 v4 k13 k11 k12 k10 hb1 hb2
         obtain ⟨hs1, rfl⟩ := Prod.mk.inj (Option.some.inj hs)
         clear hs
         rcases k89 with rfl | rfl
         ·
          cases t1
          ·
           have hval : outq.set i (false) = o1 := by rw [← hs1]; rfl
           subst hval
           clear hs1
           go_wp2
           go_still_tail 9, (by kernel_rfl)
           still_call (CF.out 1)
           repeat still_step
           (try refine wpStill_nil ?_)
           change wpList _ _ _ _ _ wr.drew
           have HTd : Aside0 (TrAt w wr.drew g10 g12 g ge go ce co es outq x) := Aside0.mk (HT.out.drewN 1)
           replace hz0 : wr.drew.cell? _ = _ := hz0
           replace fz : ∀ j, wr.drew.frozen? ⟨go, j, none⟩ = false := fz
           clear h14 h12 h10 HT hy0 hy1 CF CS
           generalize wr.drew = w10 at *
           go_wp2_with (first | ((with_reducible refine gate_store (t := 4) (p := 108) (v := .tmp 107) rfl ?_); go_must (refine store_event (t := 4) (p := 108) (v := .tmp 107) (w1 := (w10.setCell ⟨go, x.toNat, none⟩ (.bool (false)))) ?hg ?ho ?hn ?hr ?_; (case ho => rfl); (case hg => rfl); (case hn => rfl); (case hr => first | (go_simp; done) | (go_simp; rfl)); intro w12 hw; have HTs := Aside0.mk (show TrAt w w12 g10 g12 g ge go ce co es (outq.set i (false)) x by rw [hw, HXI.out]; exact HTd.out.put LO.out i _); have hs14 : w12.cell? ⟨g, 0, none⟩ = some (.int .i64 x) := (blk_cell HTs.out.b14 0).trans rfl; clear hw)) | ((with_reducible refine gate_dst (N := 14) rfl ?_); go_must (refine box_event ?hg (N := 14) ?hd (cs := #[.int .i64 0]) (t := 3) ?hr ?_; (case hd => rfl); (case hg => rfl); (case hr => first | (go_simp; done) | (go_simp; rfl)); intro gn hg w13 hbox hb; have HT13 := Aside0.mk (HTs.out.fresh hg hbox hb); have h13 : w13.cell? ⟨gn, 0, none⟩ = some (.int .i64 0) := (blk_cell HT13.out.b14 0).trans rfl; have f13 := blk_frozen HT13.out.b14 0; clear hb hbox hg)) | ((with_reducible refine gate_store (t := 3) (p := 14) (v := .tmp 120) rfl ?_); go_must (refine store_event (t := 3) (p := 14) (v := .tmp 120) (w1 := w13.setCell ⟨gn, 0, none⟩ (.int .i64 x)) ?hg ?ho ?hn ?hr ?_; (case ho => rfl); (case hg => rfl); (case hn => rfl); (case hr => first | (go_simp; done) | (go_simp; rfl)); intro w14 hw; have HT14 := Aside0.mk (show TrAt w w14 g10 g12 gn ge go ce co es _ x by rw [hw]; exact HT13.out.move x); have h14n : w14.cell? ⟨gn, 0, none⟩ = some (.int .i64 x) := (blk_cell HT14.out.b14 0).trans rfl; have f14n := blk_frozen HT14.out.b14 0; clear hw)) | ((with_reducible refine gate_store (t := 3) (p := 14) (v := .tmp 52) rfl ?_); go_must (refine store_event (t := 3) (p := 14) (v := .tmp 52) (w1 := w14.setCell ⟨gn, 0, none⟩ (.int .i64 (wrap64 (x - 1)))) ?hg ?ho ?hn ?hr ?_; (case ho => rfl); (case hg => rfl); (case hn => rfl); (case hr => first | (go_simp; done) | (go_simp; rfl)); intro w15 hw; have HT15 := Aside0.mk (show TrAt w w15 g10 g12 gn ge go ce co es _ ((i : Int) - 1) by rw [hw, ← HW.out]; exact HT14.out.move _); clear hw)))
           go_roundg i
           case measure => omega
           case rel => exact ⟨gn, bit, outq.set i (false), rfl, rfl, (by first | exact LQ.out | (rw [List.length_set]; exact LQ.out)), (by have := LK.out; omega), HN, HT15⟩
          ·
           have hval : outq.set i (t2) = o1 := by rw [← hs1]; rfl
           subst hval
           clear hs1
           go_wp2
           refine start_ (n := 10) (S := fun w' => w'.cell? ⟨g12, 0, none⟩ = some (.slice (some ⟨go, 0, none⟩) outq.length co) ∧ w'.cell? ⟨g, 0, none⟩ = some (.int .i64 x)) (ds := [9]) #[false, false, false, false, false, false, false, false, false, false] (by kernel_rfl) rfl rfl ⟨h12, h14⟩ (fun hHeld => ?_)
           refine take_ (i := 0) (N := some 100) (v := ?_) (a' := ?_) #[true, false, false, false, false, false, false, false, false, false] rfl rfl (by kernel_rfl) (fun _ _ _ h => h) (Or.inl ⟨by rfl, ?_⟩) hHeld ?_ ?_
           rotate_left
           ·
            rintro w' ⟨s0, s1⟩
            go_simp
            with_reducible rfl
           rotate_left
           ·
            simp only [Act.put, List.setIfInBounds_toArray, List.set_cons_zero, List.set_cons_succ, i64_w, i32_w]
            rfl
           refine take_ (i := 1) (N := some 101) (v := ?_) (a' := ?_) #[true, true, false, false, false, false, false, false, false, false] rfl rfl (by kernel_rfl) (fun _ _ _ h => h) (Or.inl ⟨by rfl, ?_⟩) hHeld ?_ ?_
           rotate_left
           ·
            rintro w' ⟨s0, s1⟩
            go_simp
            with_reducible rfl
           rotate_left
           ·
            simp only [Act.put, List.setIfInBounds_toArray, List.set_cons_zero, List.set_cons_succ, i64_w, i32_w]
            rfl
           refine pure_ (i := 2) (N := some 102) (v := ?_) (a' := ?_) #[true, true, true, false, false, false, false, false, false, false] rfl rfl (by kernel_rfl) (fun _ _ _ h => h) (Or.inl ⟨by rfl, ?_⟩) ?_ ?_
           rotate_left
           ·
            intro w'
            go_simp
            with_reducible rfl
           rotate_left
           ·
            simp only [Act.put, List.setIfInBounds_toArray, List.set_cons_zero, List.set_cons_succ, i64_w, i32_w]
            rfl
           refine one_ (i := 3) (N := some 103) #[true, true, true, true, false, false, false, false, false, false] rfl rfl (by kernel_rfl) (by decide) (fun K hK => ?_)
           refine call_ 56 #[.pointer (some ⟨g12, 0, none⟩), .pointer (some ⟨g, 0, none⟩)] (by rfl) rfl (by first | rfl | (go_simp; done) | (go_simp; rfl)) ?_
           refine (CF.out 1).mono ?_
           rintro e w' ⟨rfl, hw⟩
           subst hw
           refine ⟨_, rfl, ?_⟩
           refine hK.out _ _ ⟨h12, h14⟩ (fun hHeld => ?_)
           clear hK K
           refine norm_ (a' := ?_) ?_ ?_
           rotate_left
           ·
            show Act.put _ (some 103) _ = _
            simp only [Act.put, List.setIfInBounds_toArray, List.set_cons_zero, List.set_cons_succ, i64_w, i32_w]
            rfl
           refine pure_ (i := 4) (N := some 104) (v := ?_) (a' := ?_) #[true, true, true, true, true, false, false, false, false, false] rfl rfl (by kernel_rfl) (fun _ _ _ h => h) (Or.inl ⟨by rfl, ?_⟩) ?_ ?_
           rotate_left
           ·
            intro w'
            go_simp
            with_reducible rfl
           rotate_left
           ·
            simp only [Act.put, List.setIfInBounds_toArray, List.set_cons_zero, List.set_cons_succ, i64_w, i32_w]
            rfl
           refine pure_ (i := 5) (N := some 105) (v := ?_) (a' := ?_) #[true, true, true, true, true, true, false, false, false, false] rfl rfl (by kernel_rfl) (fun _ _ _ h => h) (Or.inl ⟨by rfl, ?_⟩) ?_ ?_
           rotate_left
           ·
            intro w'
            go_simp
            with_reducible rfl
           rotate_left
           ·
            simp only [Act.put, List.setIfInBounds_toArray, List.set_cons_zero, List.set_cons_succ, i64_w, i32_w]
            rfl
           refine one_ (i := 6) (N := some 106) #[true, true, true, true, true, true, true, false, false, false] rfl rfl (by kernel_rfl) (by decide) (fun K hK => ?_)
           refine call_ 57 #[.pointer (some ⟨g12, 0, none⟩), .pointer (some ⟨g10, 0, none⟩), .pointer (some ⟨g, 0, none⟩)] (by rfl) rfl (by first | rfl | (go_simp; done) | (go_simp; rfl)) ?_
           refine (CS.out 1).mono ?_
           rintro e w' ⟨rfl, ⟨nd, hw⟩⟩
           subst hw
           refine ⟨_, rfl, ?_⟩
           refine hK.out _ _ ⟨h12, h14⟩ (fun hHeld => ?_)
           clear hK K
           refine norm_ (a' := ?_) ?_ ?_
           rotate_left
           ·
            show Act.put _ (some 106) _ = _
            simp only [Act.put, List.setIfInBounds_toArray, List.set_cons_zero, List.set_cons_succ, i64_w, i32_w]
            rfl
           refine pure_ (i := 7) (N := some 107) (v := ?_) (a' := ?_) #[true, true, true, true, true, true, true, true, false, false] rfl rfl (by kernel_rfl) (fun _ _ _ h => h) (Or.inl ⟨by rfl, ?_⟩) ?_ ?_
           rotate_left
           ·
            intro w'
            go_simp
            with_reducible rfl
           rotate_left
           ·
            simp only [Act.put, List.setIfInBounds_toArray, List.set_cons_zero, List.set_cons_succ, i64_w, i32_w]
            rfl
           refine pure_ (i := 8) (N := some 108) (v := ?_) (a' := ?_) #[true, true, true, true, true, true, true, true, true, false] rfl rfl (by kernel_rfl) (fun _ _ _ h => h) (Or.inl ⟨by rfl, ?_⟩) ?_ ?_
           rotate_left
           ·
            intro w'
            go_simp
            with_reducible rfl
           rotate_left
           ·
            simp only [Act.put, List.setIfInBounds_toArray, List.set_cons_zero, List.set_cons_succ, i64_w, i32_w]
            rfl
           have hzn : ((wr.drewN 1).drewN nd).cell? ⟨go, x.toNat, none⟩ = some (.bool (rdOf false outq x)) := hz0
           have fzn : ((wr.drewN 1).drewN nd).frozen? ⟨go, x.toNat, none⟩ = false := fz _
           have HTn := Aside0.mk ((HT.out.drewN 1).drewN nd)
           generalize (wr.drewN 1).drewN nd = w10 at *
           refine last_ (i := 9) (N := none) #[true, true, true, true, true, true, true, true, true, true] rfl rfl (by kernel_rfl) (by decide) (fun K hK => ?_)
           refine skip_ (w1 := w10.setCell ⟨go, x.toNat, none⟩ (.bool t2)) (by rfl) rfl ?_ ?_
           ·
            go_simp
           refine hK.out _ _ ?_
           clear hK K
           refine done_ (by kernel_rfl) ?_
           generalize hW : w10.setCell ⟨go, x.toNat, none⟩ (.bool t2) = w12
           have HTs := Aside0.mk (show TrAt w w12 g10 g12 g ge go ce co es (outq.set i t2) x by rw [← hW, HXI.out]; exact HTn.out.put LO.out i _)
           have hs14 : w12.cell? ⟨g, 0, none⟩ = some (.int .i64 x) := (blk_cell HTs.out.b14 0).trans rfl
           clear hW hzn fzn HTn h14 h12 h10 HT hy0 hy1 CF CS hHeld
           go_wp2_with (first | ((with_reducible refine gate_dst (N := 14) rfl ?_); go_must (refine box_event ?hg (N := 14) ?hd (cs := #[.int .i64 0]) (t := 3) ?hr ?_; (case hd => rfl); (case hg => rfl); (case hr => first | (go_simp; done) | (go_simp; rfl)); intro gn hg w13 hbox hb; have HT13 := Aside0.mk (HTs.out.fresh hg hbox hb); have h13 : w13.cell? ⟨gn, 0, none⟩ = some (.int .i64 0) := (blk_cell HT13.out.b14 0).trans rfl; have f13 := blk_frozen HT13.out.b14 0; clear hb hbox hg)) | ((with_reducible refine gate_store (t := 3) (p := 14) (v := .tmp 120) rfl ?_); go_must (refine store_event (t := 3) (p := 14) (v := .tmp 120) (w1 := w13.setCell ⟨gn, 0, none⟩ (.int .i64 x)) ?hg ?ho ?hn ?hr ?_; (case ho => rfl); (case hg => rfl); (case hn => rfl); (case hr => first | (go_simp; done) | (go_simp; rfl)); intro w14 hw; have HT14 := Aside0.mk (show TrAt w w14 g10 g12 gn ge go ce co es _ x by rw [hw]; exact HT13.out.move x); have h14n : w14.cell? ⟨gn, 0, none⟩ = some (.int .i64 x) := (blk_cell HT14.out.b14 0).trans rfl; have f14n := blk_frozen HT14.out.b14 0; clear hw)) | ((with_reducible refine gate_store (t := 3) (p := 14) (v := .tmp 52) rfl ?_); go_must (refine store_event (t := 3) (p := 14) (v := .tmp 52) (w1 := w14.setCell ⟨gn, 0, none⟩ (.int .i64 (wrap64 (x - 1)))) ?hg ?ho ?hn ?hr ?_; (case ho => rfl); (case hg => rfl); (case hn => rfl); (case hr => first | (go_simp; done) | (go_simp; rfl)); intro w15 hw; have HT15 := Aside0.mk (show TrAt w w15 g10 g12 gn ge go ce co es _ ((i : Int) - 1) by rw [hw, ← HW.out]; exact HT14.out.move _); clear hw)))
           go_roundg i
           case measure => omega
           case rel => exact ⟨gn, bit, outq.set i t2, rfl, rfl, (by first | exact LQ.out | (rw [List.length_set]; exact LQ.out)), (by have := LK.out; omega), HN, HT15⟩
         ·
          cases t1
          ·
           have hval : outq.set i (t2) = o1 := by rw [← hs1]; rfl
           subst hval
           clear hs1
           go_wp2
           refine start_ (n := 10) (S := fun w' => w'.cell? ⟨g12, 0, none⟩ = some (.slice (some ⟨go, 0, none⟩) outq.length co) ∧ w'.cell? ⟨g, 0, none⟩ = some (.int .i64 x)) (ds := [9]) #[false, false, false, false, false, false, false, false, false, false] (by kernel_rfl) rfl rfl ⟨h12, h14⟩ (fun hHeld => ?_)
           refine take_ (i := 0) (N := some 111) (v := ?_) (a' := ?_) #[true, false, false, false, false, false, false, false, false, false] rfl rfl (by kernel_rfl) (fun _ _ _ h => h) (Or.inl ⟨by rfl, ?_⟩) hHeld ?_ ?_
           rotate_left
           ·
            rintro w' ⟨s0, s1⟩
            go_simp
            with_reducible rfl
           rotate_left
           ·
            simp only [Act.put, List.setIfInBounds_toArray, List.set_cons_zero, List.set_cons_succ, i64_w, i32_w]
            rfl
           refine take_ (i := 1) (N := some 112) (v := ?_) (a' := ?_) #[true, true, false, false, false, false, false, false, false, false] rfl rfl (by kernel_rfl) (fun _ _ _ h => h) (Or.inl ⟨by rfl, ?_⟩) hHeld ?_ ?_
           rotate_left
           ·
            rintro w' ⟨s0, s1⟩
            go_simp
            with_reducible rfl
           rotate_left
           ·
            simp only [Act.put, List.setIfInBounds_toArray, List.set_cons_zero, List.set_cons_succ, i64_w, i32_w]
            rfl
           refine pure_ (i := 2) (N := some 113) (v := ?_) (a' := ?_) #[true, true, true, false, false, false, false, false, false, false] rfl rfl (by kernel_rfl) (fun _ _ _ h => h) (Or.inl ⟨by rfl, ?_⟩) ?_ ?_
           rotate_left
           ·
            intro w'
            go_simp
            with_reducible rfl
           rotate_left
           ·
            simp only [Act.put, List.setIfInBounds_toArray, List.set_cons_zero, List.set_cons_succ, i64_w, i32_w]
            rfl
           refine one_ (i := 3) (N := some 114) #[true, true, true, true, false, false, false, false, false, false] rfl rfl (by kernel_rfl) (by decide) (fun K hK => ?_)
           refine call_ 56 #[.pointer (some ⟨g12, 0, none⟩), .pointer (some ⟨g, 0, none⟩)] (by rfl) rfl (by first | rfl | (go_simp; done) | (go_simp; rfl)) ?_
           refine (CF.out 1).mono ?_
           rintro e w' ⟨rfl, hw⟩
           subst hw
           refine ⟨_, rfl, ?_⟩
           refine hK.out _ _ ⟨h12, h14⟩ (fun hHeld => ?_)
           clear hK K
           refine norm_ (a' := ?_) ?_ ?_
           rotate_left
           ·
            show Act.put _ (some 114) _ = _
            simp only [Act.put, List.setIfInBounds_toArray, List.set_cons_zero, List.set_cons_succ, i64_w, i32_w]
            rfl
           refine pure_ (i := 4) (N := some 115) (v := ?_) (a' := ?_) #[true, true, true, true, true, false, false, false, false, false] rfl rfl (by kernel_rfl) (fun _ _ _ h => h) (Or.inl ⟨by rfl, ?_⟩) ?_ ?_
           rotate_left
           ·
            intro w'
            go_simp
            with_reducible rfl
           rotate_left
           ·
            simp only [Act.put, List.setIfInBounds_toArray, List.set_cons_zero, List.set_cons_succ, i64_w, i32_w]
            rfl
           refine pure_ (i := 5) (N := some 116) (v := ?_) (a' := ?_) #[true, true, true, true, true, true, false, false, false, false] rfl rfl (by kernel_rfl) (fun _ _ _ h => h) (Or.inl ⟨by rfl, ?_⟩) ?_ ?_
           rotate_left
           ·
            intro w'
            go_simp
            with_reducible rfl
           rotate_left
           ·
            simp only [Act.put, List.setIfInBounds_toArray, List.set_cons_zero, List.set_cons_succ, i64_w, i32_w]
            rfl
           refine one_ (i := 6) (N := some 117) #[true, true, true, true, true, true, true, false, false, false] rfl rfl (by kernel_rfl) (by decide) (fun K hK => ?_)
           refine call_ 57 #[.pointer (some ⟨g12, 0, none⟩), .pointer (some ⟨g10, 0, none⟩), .pointer (some ⟨g, 0, none⟩)] (by rfl) rfl (by first | rfl | (go_simp; done) | (go_simp; rfl)) ?_
           refine (CS.out 1).mono ?_
           rintro e w' ⟨rfl, ⟨nd, hw⟩⟩
           subst hw
           refine ⟨_, rfl, ?_⟩
           refine hK.out _ _ ⟨h12, h14⟩ (fun hHeld => ?_)
           clear hK K
           refine norm_ (a' := ?_) ?_ ?_
           rotate_left
           ·
            show Act.put _ (some 117) _ = _
            simp only [Act.put, List.setIfInBounds_toArray, List.set_cons_zero, List.set_cons_succ, i64_w, i32_w]
            rfl
           refine pure_ (i := 7) (N := some 118) (v := ?_) (a' := ?_) #[true, true, true, true, true, true, true, true, false, false] rfl rfl (by kernel_rfl) (fun _ _ _ h => h) (Or.inl ⟨by rfl, ?_⟩) ?_ ?_
           rotate_left
           ·
            intro w'
            go_simp
            with_reducible rfl
           rotate_left
           ·
            simp only [Act.put, List.setIfInBounds_toArray, List.set_cons_zero, List.set_cons_succ, i64_w, i32_w]
            rfl
           refine pure_ (i := 8) (N := some 119) (v := ?_) (a' := ?_) #[true, true, true, true, true, true, true, true, true, false] rfl rfl (by kernel_rfl) (fun _ _ _ h => h) (Or.inl ⟨by rfl, ?_⟩) ?_ ?_
           rotate_left
           ·
            intro w'
            go_simp
            with_reducible rfl
           rotate_left
           ·
            simp only [Act.put, List.setIfInBounds_toArray, List.set_cons_zero, List.set_cons_succ, i64_w, i32_w]
            rfl
           have hzn : ((wr.drewN 1).drewN nd).cell? ⟨go, x.toNat, none⟩ = some (.bool (rdOf false outq x)) := hz0
           have fzn : ((wr.drewN 1).drewN nd).frozen? ⟨go, x.toNat, none⟩ = false := fz _
           have HTn := Aside0.mk ((HT.out.drewN 1).drewN nd)
           generalize (wr.drewN 1).drewN nd = w10 at *
           refine last_ (i := 9) (N := none) #[true, true, true, true, true, true, true, true, true, true] rfl rfl (by kernel_rfl) (by decide) (fun K hK => ?_)
           refine skip_ (w1 := w10.setCell ⟨go, x.toNat, none⟩ (.bool t2)) (by rfl) rfl ?_ ?_
           ·
            go_simp
           refine hK.out _ _ ?_
           clear hK K
           refine done_ (by kernel_rfl) ?_
           generalize hW : w10.setCell ⟨go, x.toNat, none⟩ (.bool t2) = w12
           have HTs := Aside0.mk (show TrAt w w12 g10 g12 g ge go ce co es (outq.set i t2) x by rw [← hW, HXI.out]; exact HTn.out.put LO.out i _)
           have hs14 : w12.cell? ⟨g, 0, none⟩ = some (.int .i64 x) := (blk_cell HTs.out.b14 0).trans rfl
           clear hW hzn fzn HTn h14 h12 h10 HT hy0 hy1 CF CS hHeld
           go_wp2_with (first | ((with_reducible refine gate_dst (N := 14) rfl ?_); go_must (refine box_event ?hg (N := 14) ?hd (cs := #[.int .i64 0]) (t := 3) ?hr ?_; (case hd => rfl); (case hg => rfl); (case hr => first | (go_simp; done) | (go_simp; rfl)); intro gn hg w13 hbox hb; have HT13 := Aside0.mk (HTs.out.fresh hg hbox hb); have h13 : w13.cell? ⟨gn, 0, none⟩ = some (.int .i64 0) := (blk_cell HT13.out.b14 0).trans rfl; have f13 := blk_frozen HT13.out.b14 0; clear hb hbox hg)) | ((with_reducible refine gate_store (t := 3) (p := 14) (v := .tmp 120) rfl ?_); go_must (refine store_event (t := 3) (p := 14) (v := .tmp 120) (w1 := w13.setCell ⟨gn, 0, none⟩ (.int .i64 x)) ?hg ?ho ?hn ?hr ?_; (case ho => rfl); (case hg => rfl); (case hn => rfl); (case hr => first | (go_simp; done) | (go_simp; rfl)); intro w14 hw; have HT14 := Aside0.mk (show TrAt w w14 g10 g12 gn ge go ce co es _ x by rw [hw]; exact HT13.out.move x); have h14n : w14.cell? ⟨gn, 0, none⟩ = some (.int .i64 x) := (blk_cell HT14.out.b14 0).trans rfl; have f14n := blk_frozen HT14.out.b14 0; clear hw)) | ((with_reducible refine gate_store (t := 3) (p := 14) (v := .tmp 52) rfl ?_); go_must (refine store_event (t := 3) (p := 14) (v := .tmp 52) (w1 := w14.setCell ⟨gn, 0, none⟩ (.int .i64 (wrap64 (x - 1)))) ?hg ?ho ?hn ?hr ?_; (case ho => rfl); (case hg => rfl); (case hn => rfl); (case hr => first | (go_simp; done) | (go_simp; rfl)); intro w15 hw; have HT15 := Aside0.mk (show TrAt w w15 g10 g12 gn ge go ce co es _ ((i : Int) - 1) by rw [hw, ← HW.out]; exact HT14.out.move _); clear hw)))
           go_roundg i
           case measure => omega
           case rel => exact ⟨gn, bit, outq.set i t2, rfl, rfl, (by first | exact LQ.out | (rw [List.length_set]; exact LQ.out)), (by have := LK.out; omega), HN, HT15⟩
          ·
           have hval : outq.set i (true) = o1 := by rw [← hs1]; rfl
           subst hval
           clear hs1
           go_wp2
           go_still_tail 9, (by kernel_rfl)
           still_call (CF.out 1)
           repeat still_step
           (try refine wpStill_nil ?_)
           change wpList _ _ _ _ _ wr.drew
           have HTd : Aside0 (TrAt w wr.drew g10 g12 g ge go ce co es outq x) := Aside0.mk (HT.out.drewN 1)
           replace hz0 : wr.drew.cell? _ = _ := hz0
           replace fz : ∀ j, wr.drew.frozen? ⟨go, j, none⟩ = false := fz
           clear h14 h12 h10 HT hy0 hy1 CF CS
           generalize wr.drew = w10 at *
           go_wp2_with (first | ((with_reducible refine gate_store (t := 4) (p := 119) (v := .tmp 118) rfl ?_); go_must (refine store_event (t := 4) (p := 119) (v := .tmp 118) (w1 := (w10.setCell ⟨go, x.toNat, none⟩ (.bool (true)))) ?hg ?ho ?hn ?hr ?_; (case ho => rfl); (case hg => rfl); (case hn => rfl); (case hr => first | (go_simp; done) | (go_simp; rfl)); intro w12 hw; have HTs := Aside0.mk (show TrAt w w12 g10 g12 g ge go ce co es (outq.set i (true)) x by rw [hw, HXI.out]; exact HTd.out.put LO.out i _); have hs14 : w12.cell? ⟨g, 0, none⟩ = some (.int .i64 x) := (blk_cell HTs.out.b14 0).trans rfl; clear hw)) | ((with_reducible refine gate_dst (N := 14) rfl ?_); go_must (refine box_event ?hg (N := 14) ?hd (cs := #[.int .i64 0]) (t := 3) ?hr ?_; (case hd => rfl); (case hg => rfl); (case hr => first | (go_simp; done) | (go_simp; rfl)); intro gn hg w13 hbox hb; have HT13 := Aside0.mk (HTs.out.fresh hg hbox hb); have h13 : w13.cell? ⟨gn, 0, none⟩ = some (.int .i64 0) := (blk_cell HT13.out.b14 0).trans rfl; have f13 := blk_frozen HT13.out.b14 0; clear hb hbox hg)) | ((with_reducible refine gate_store (t := 3) (p := 14) (v := .tmp 120) rfl ?_); go_must (refine store_event (t := 3) (p := 14) (v := .tmp 120) (w1 := w13.setCell ⟨gn, 0, none⟩ (.int .i64 x)) ?hg ?ho ?hn ?hr ?_; (case ho => rfl); (case hg => rfl); (case hn => rfl); (case hr => first | (go_simp; done) | (go_simp; rfl)); intro w14 hw; have HT14 := Aside0.mk (show TrAt w w14 g10 g12 gn ge go ce co es _ x by rw [hw]; exact HT13.out.move x); have h14n : w14.cell? ⟨gn, 0, none⟩ = some (.int .i64 x) := (blk_cell HT14.out.b14 0).trans rfl; have f14n := blk_frozen HT14.out.b14 0; clear hw)) | ((with_reducible refine gate_store (t := 3) (p := 14) (v := .tmp 52) rfl ?_); go_must (refine store_event (t := 3) (p := 14) (v := .tmp 52) (w1 := w14.setCell ⟨gn, 0, none⟩ (.int .i64 (wrap64 (x - 1)))) ?hg ?ho ?hn ?hr ?_; (case ho => rfl); (case hg => rfl); (case hn => rfl); (case hr => first | (go_simp; done) | (go_simp; rfl)); intro w15 hw; have HT15 := Aside0.mk (show TrAt w w15 g10 g12 gn ge go ce co es _ ((i : Int) - 1) by rw [hw, ← HW.out]; exact HT14.out.move _); clear hw)))
           go_roundg i
           case measure => omega
           case rel => exact ⟨gn, bit, outq.set i (true), rfl, rfl, (by first | exact LQ.out | (rw [List.length_set]; exact LQ.out)), (by have := LK.out; omega), HN, HT15⟩
        ·
         rw [if_neg hv] at hs
         exact absurd hs (by simp)
       ·
        rw [if_neg k89] at hs
        by_cases hb : 1 ≤ bit ∧ bit ≤ 60
        ·
         rw [if_pos hb] at hs
         obtain ⟨bb, hbb⟩ : ∃ bb : Int, wrap64 (bit - 1) = bb := ⟨_, rfl⟩
         have HBB := Aside0.mk (show bit - 1 = bb by rw [← hbb]; unfold wrap64; omega)
         rw [HBB.out] at hs
         obtain ⟨ji2, hji2⟩ : ∃ j_ : Int, (shr .i64 a2 bb) = j_ := ⟨_, rfl⟩
         rw [hji2] at hs
         obtain ⟨rfl, rfl⟩ := Prod.mk.inj (Option.some.inj hs)
         have hji2_ : (a2 / 2 ^ min bb.toNat 64) = ji2 := hji2
         have hji2z : bb ≤ 64 → (a2 / 2 ^ bb.toNat) = ji2 := shr_small hji2
         have c0 : 0 ≤ bb := by have := HBB.out; omega
         have c0' := eq_true c0
         have e13 : (kd == 13) = false := beq_eq_false_iff_ne.mpr k13
         have e11 : (kd == 11) = false := beq_eq_false_iff_ne.mpr k11
         have e12 : (kd == 12) = false := beq_eq_false_iff_ne.mpr k12
         have e10 : (kd == 10) = false := beq_eq_false_iff_ne.mpr k10
         have e8 : (kd == 8) = false := beq_eq_false_iff_ne.mpr (fun h => k89 (.inl h))
         have e9 : (kd == 9) = false := beq_eq_false_iff_ne.mpr (fun h => k89 (.inr h))
         clear hb hs k13 k11 k12 k10 k89 c0
         go_wp2
         go_still_tail 8, (by kernel_rfl)
         change wpList _ _ _ _ _ wr.drew
         have HTd : Aside0 (TrAt w wr.drew g10 g12 g ge go ce co es outq x) := Aside0.mk (HT.out.drewN 1)
         replace hz0 : wr.drew.cell? _ = _ := hz0
         replace fz : ∀ j, wr.drew.frozen? ⟨go, j, none⟩ = false := fz
         clear h14 h12 h10 HT hy0 hy1
         generalize wr.drew = w10 at *
         go_wp2_with (first | ((with_reducible refine gate_store (t := 4) (p := 69) (v := .tmp 68) rfl ?_); go_must (refine store_event (t := 4) (p := 69) (v := .tmp 68) (w1 := (w10.setCell ⟨go, x.toNat, none⟩ (.bool (Go.bits .and .i64 ji2 1 == 1)))) ?hg ?ho ?hn ?hr ?_; (case ho => rfl); (case hg => rfl); (case hn => rfl); (case hr => first | (go_simp; done) | (go_simp; rfl)); intro w12 hw; have HTs := Aside0.mk (show TrAt w w12 g10 g12 g ge go ce co es (outq.set i (Go.bits .and .i64 ji2 1 == 1)) x by rw [hw, HXI.out]; exact HTd.out.put LO.out i _); have hs14 : w12.cell? ⟨g, 0, none⟩ = some (.int .i64 x) := (blk_cell HTs.out.b14 0).trans rfl; clear hw)) | ((with_reducible refine gate_dst (N := 14) rfl ?_); go_must (refine box_event ?hg (N := 14) ?hd (cs := #[.int .i64 0]) (t := 3) ?hr ?_; (case hd => rfl); (case hg => rfl); (case hr => first | (go_simp; done) | (go_simp; rfl)); intro gn hg w13 hbox hb; have HT13 := Aside0.mk (HTs.out.fresh hg hbox hb); have h13 : w13.cell? ⟨gn, 0, none⟩ = some (.int .i64 0) := (blk_cell HT13.out.b14 0).trans rfl; have f13 := blk_frozen HT13.out.b14 0; clear hb hbox hg)) | ((with_reducible refine gate_store (t := 3) (p := 14) (v := .tmp 120) rfl ?_); go_must (refine store_event (t := 3) (p := 14) (v := .tmp 120) (w1 := w13.setCell ⟨gn, 0, none⟩ (.int .i64 x)) ?hg ?ho ?hn ?hr ?_; (case ho => rfl); (case hg => rfl); (case hn => rfl); (case hr => first | (go_simp; done) | (go_simp; rfl)); intro w14 hw; have HT14 := Aside0.mk (show TrAt w w14 g10 g12 gn ge go ce co es _ x by rw [hw]; exact HT13.out.move x); have h14n : w14.cell? ⟨gn, 0, none⟩ = some (.int .i64 x) := (blk_cell HT14.out.b14 0).trans rfl; have f14n := blk_frozen HT14.out.b14 0; clear hw)) | ((with_reducible refine gate_store (t := 3) (p := 14) (v := .tmp 52) rfl ?_); go_must (refine store_event (t := 3) (p := 14) (v := .tmp 52) (w1 := w14.setCell ⟨gn, 0, none⟩ (.int .i64 (wrap64 (x - 1)))) ?hg ?ho ?hn ?hr ?_; (case ho => rfl); (case hg => rfl); (case hn => rfl); (case hr => first | (go_simp; done) | (go_simp; rfl)); intro w15 hw; have HT15 := Aside0.mk (show TrAt w w15 g10 g12 gn ge go ce co es _ ((i : Int) - 1) by rw [hw, ← HW.out]; exact HT14.out.move _); clear hw)))
         go_roundg i
         case measure => omega
         case rel => exact ⟨gn, bb, outq.set i (Go.bits .and .i64 ji2 1 == 1), rfl, rfl, (by first | exact LQ.out | (rw [List.length_set]; exact LQ.out)), (by have := LK.out; omega), HN, HT15⟩
        ·
         rw [if_neg hb] at hs
         exact absurd hs (by simp)

end Go.Proofs.YtbokbbcoekeoaaaDoor.P
end
