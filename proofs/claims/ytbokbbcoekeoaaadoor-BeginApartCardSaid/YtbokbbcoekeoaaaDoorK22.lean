-- PACKED by pack.py of this repo: FForetellkeepBeginApart
import Derived.Test.YtbokbbcoekeoaaaDoorK2
import Derived.Test.YtbokbbcoekeoaaaDoorK3
import Derived.Test.YtbokbbcoekeoaaaDoorK8
import Derived.Test.YtbokbbcoekeoaaaDoorK13
import Derived.Test.YtbokbbcoekeoaaaDoorK21
namespace Go.Proofs.YtbokbbcoekeoaaaDoorW.PrintWords
open Go.RowKit
namespace Kd
section
variable {α : Type} {d : Kd α} {e e' : Nat} {w w1 W : World} {base : Nat} {ok : Nat → Prop} {u v : Value} {xs : List α}
theorem fresh' (hlt : ∀ k, u.ownBlock = some k → k < W.heap.size) : ∀ k, W.heap.size ≤ k → some k ≠ u.ownBlock := fun k hk he => by have := hlt k he.symm; omega
end
section
variable {α β : Type} {d : Kd α} {d' : Kd β} {e e' : Nat} {w w1 W : World} {base b : Nat} {ok ok' okv oku : Nat → Prop} {u v : Value} {xs : List α} {ys : List β}
theorem R_tight (hE : d.E = []) (h : d.R e w base ok v xs) : d.R e w base (fun k => some k = v.ownBlock) v xs := by
  obtain ⟨h0, inner, ho, hr⟩ := h
  refine ⟨fun k hk => hk.symm, inner, ho, hr.imp_ (fun p c hp => d.M_mono (fun k hk => ?_) (d.M_bound hp))⟩
  obtain ⟨_, _, _, q, hq, _⟩ := hk
  rw [hE] at hq
  cases hq
end
section
variable {α : Type} {d : Kd α} {e base n cc g : Nat} {ok ok' okp S : Nat → Prop} {w w1 W W1 : World} {A : Option Addr} {u v v1 : Value} {xs : List α} {x : α} {c : List Value}
theorem raw_tight {sz : Nat} {rows : List (List Value)} (h : (raw sz).R e w base ok v rows) : (raw sz).R e w base (fun k => some k = v.ownBlock) v rows := R_tight rfl h
end
section
variable {α : Type} {d : Kd α} {e base n cap g : Nat} {ok ok' okp : Nat → Prop} {w w1 W : World} {v v1 : Value} {xs ys : List α}
theorem N_made {rows : List (List Value)} (hR : (raw d.sz).R e w1 base (fun k => k = W.heap.size) v1 rows) (hg : W.grownBy w1 none) (hat : ∃ b, v1.ownBlock = some b ∧ W.heap.size ≤ b) (hl : rows.length = xs.length) (hf : ∀ (j : Nat) (x : α) (c : List Value), xs[j]? = some x → rows[j]? = some c → FK d W okp x c)
    (hok : ∀ k, okp k → ok k) (hfresh : ok W.heap.size) : N d e w1 base ok v1 xs := by
  obtain ⟨b, hb, hle⟩ := hat
  refine ⟨fun k hk => by rw [hR.1 k hk]; exact hfresh, rows, hl, raw_tight hR, fun j x c hx hc => ?_⟩
  refine FK_mono (FK_step (FK_bound (hf j x c hx hc)) (fun k hk hlt => hg.block k hlt (by simp))) (fun k hk => ⟨hok k hk.1, fun he => ?_⟩)
  rw [hb] at he
  injection he with he
  have := hk.2
  omega
end
section
variable {P : Program} {ops : Array Oper} {rest : List Oper} {o : Oper} {a : Act} {Q : Exit → Act → World → Prop} {Kc : Act → World → Prop} {α : Type}
theorem N_lit (d : Kd α) {w0 W : World} (base e : Nat) (hgd : o.guard = none) {N' : Tmp} (_hd : o.dst = some N') {xs : List α} {inner : List Value} {ok okp : Nat → Prop}
    (hrun : (execOp a.eval o).run P W = .ok (.value (.slice (some ⟨W.heap.size, 0, none⟩) xs.length xs.length)) (W.alloc (.cells inner.toArray e)))
    (hrep : Reps (FK d W okp) d.sz xs inner) (hok : ∀ k, okp k → ok k) (hfresh : ok W.heap.size) (HB : Below base w0 W) (hbase : base ≤ W.heap.size) (hm : xs.length ≤ 9223372036854775807)
    (h : ∀ v1 w1, N d e w1 base ok v1 xs → Below base w0 w1 → W.grownBy w1 none → (∃ b, v1.ownBlock = some b ∧ W.heap.size ≤ b) → wpList P ops Q rest (a.put o.dst v1) w1) :
    wpList P ops Q (o :: rest) a W := by
  refine R_lit (raw d.sz) base e hgd _hd (xs := chunks d.sz xs.length inner) (inner := inner) (ok := fun k => k = W.heap.size) (okp := fun _ => False) (by rw [chunks_length]; exact hrun) (reps_raw hrep (fun y c hk => ⟨d.K_len (FK_now hk), d.K_one (FK_now hk)⟩)) (fun _ hk => hk.elim) rfl HB hbase (by rw [chunks_length]; exact hm) ?_
  intro v1 w1 hr hb hg hat
  exact h v1 w1 (N_made hr hg hat (chunks_length _ _ _) (fun j y c hy hc => by rw [chunks_get hc]; exact hrep.2 j y hy) hok hfresh) hb hg hat
end
end Kd
end Go.Proofs.YtbokbbcoekeoaaaDoorW.PrintWords
section
namespace Go.Proofs.YtbokbbcoekeoaaaDoor.P
open Go.RowKit Go.Proofs.YtbokbbcoekeoaaaDoorW.PrintWords Go.Proofs.YtbokbbcoekeoaaaDoorW.PrintLast Go.Proofs.YtbokbbcoekeoaaaDoorW.PrintMore Go.Proofs.YtbokbbcoekeoaaaDoor.G
attribute [local go_sem] max2_int min2_int max_two min_two max_three min_three max_four min_four
set_option linter.unusedVariables false
set_option linter.unusedSimpArgs false

/-! ### foretellkeep_BeginApart: function 3 -/
mutual
def foretellkeep_BeginApart.l0 : Nat → List (S45) → Int → List (S45) → Int → Int → Int → List Int → Int → Option (Bool)
 | 0, _, _, _, _, _, _, _, _ => none
 | k + 1, x7, x8, x9, x10, x11, x12, x13, x14 => if x14 < (x7.length : Int) then (if 0 ≤ x14 then (if ((rd_T45 x7 x14).f0) = x11 then (if ((rd_T45 x7 x14).f1) < 0 then (some false) else (if ((rd_T45 x7 x14).f1) > 7 then (some false) else (if 0 ≤ ((rd_T45 x7 x14).f1) then (if ((rd_T45 x7 x14).f1) < (x13.length : Int) then (foretellkeep_BeginApart.l0 k x7 x8 x9 x10 x11 x12 (x13.set (((rd_T45 x7 x14).f1) : Int).toNat (wrap64 ((rd x13 ((rd_T45 x7 x14).f1)) + 1))) (wrap64 (x14 + 1))) else (none)) else (none)))) else (some false)) else (none)) else (foretellkeep_BeginApart.l1 k x7 x8 x9 x10 x11 x12 x13 0)
def foretellkeep_BeginApart.l1 : Nat → List (S45) → Int → List (S45) → Int → Int → Int → List Int → Int → Option (Bool)
 | 0, _, _, _, _, _, _, _, _ => none
 | k + 1, x7, x8, x9, x10, x11, x12, x13, x15 => if x15 < (x9.length : Int) then (if 0 ≤ x15 then (if ((rd_T45 x9 x15).f0) = x11 then (if ((rd_T45 x9 x15).f1) < 0 then (some false) else (if ((rd_T45 x9 x15).f1) > 7 then (some false) else (if 0 ≤ ((rd_T45 x9 x15).f1) then (if ((rd_T45 x9 x15).f1) < (x13.length : Int) then (foretellkeep_BeginApart.l1 k x7 x8 x9 x10 x11 x12 (x13.set (((rd_T45 x9 x15).f1) : Int).toNat (wrap64 ((rd x13 ((rd_T45 x9 x15).f1)) + 1))) (wrap64 (x15 + 1))) else (none)) else (none)))) else (some false)) else (none)) else (foretellkeep_BeginApart.l2 k x8 x10 x12 x13 (wrap64 ((x7.length : Int) + (x9.length : Int))) 0)
def foretellkeep_BeginApart.l2 : Nat → Int → Int → Int → List Int → Int → Int → Option (Bool)
 | 0, _, _, _, _, _, _ => none
 | k + 1, x8, x10, x12, x13, x16, x17 => if x17 < 8 then (if x17 < x16 then (if 0 ≤ x17 then (if x17 < (x13.length : Int) then (if (rd x13 x17) = 1 then (if x17 ≥ x16 then (if (rd x13 x17) = 0 then (foretellkeep_BeginApart.l2 k x8 x10 x12 x13 x16 (wrap64 (x17 + 1))) else (some false)) else (foretellkeep_BeginApart.l2 k x8 x10 x12 x13 x16 (wrap64 (x17 + 1)))) else (some false)) else (none)) else (none)) else (if x17 ≥ x16 then (if 0 ≤ x17 then (if x17 < (x13.length : Int) then (if (rd x13 x17) = 0 then (foretellkeep_BeginApart.l2 k x8 x10 x12 x13 x16 (wrap64 (x17 + 1))) else (some false)) else (none)) else (none)) else (foretellkeep_BeginApart.l2 k x8 x10 x12 x13 x16 (wrap64 (x17 + 1))))) else (if x8 = 0 then (if x10 = 0 then (if x12 = 0 then (if x16 = 1 then (some true) else (if x16 = 2 then (some true) else (if x16 = 4 then (some true) else (some (x16 == 8))))) else (some false)) else (some false)) else (some false))
end
def foretellkeep_BeginApart.f (k : Nat) (a0_0 : Int) (a0_1 : Int) (a0_2 : Int) (a0_3 : Int) (a0_4 : Int) (a0_5 : Int) (l0_6 : List (S124)) (l1 : List (S152)) : Option (Bool) := (foretellkeep_Task.f k a0_0 a0_1 a0_2 a0_3 a0_4 a0_5 l0_6 l1 3).bind fun bt248 => ((foretellkeep_joined.f k 10 (([bt248.2.2.2] : List (List (S72))))).bind fun t265 => ((product_Begin.f k bt248.1 bt248.2.1 bt248.2.2.1 bt248.2.2.2).bind fun bt268 => ((product_Begin.f k bt248.1 bt248.2.1 bt248.2.2.1 t265).bind fun bt272 => ((model_First.f k bt248.1 bt248.2.1).bind fun bt276 => (if 8 ≤ 35184372088832 then (foretellkeep_BeginApart.l0 k bt268.1 bt268.2 bt272.1 bt272.2 bt276.1 bt276.2 (List.replicate 8 0) 0) else (none))))))
theorem foretellkeep_BeginApart.mono_l : ∀ k, (∀ y0 y1 y2 y3 y4 y5 y6 y7, LeO (foretellkeep_BeginApart.l0 k y0 y1 y2 y3 y4 y5 y6 y7) (foretellkeep_BeginApart.l0 (k + 1) y0 y1 y2 y3 y4 y5 y6 y7)) ∧ (∀ y0 y1 y2 y3 y4 y5 y6 y7, LeO (foretellkeep_BeginApart.l1 k y0 y1 y2 y3 y4 y5 y6 y7) (foretellkeep_BeginApart.l1 (k + 1) y0 y1 y2 y3 y4 y5 y6 y7)) ∧ (∀ y0 y1 y2 y3 y4 y5, LeO (foretellkeep_BeginApart.l2 k y0 y1 y2 y3 y4 y5) (foretellkeep_BeginApart.l2 (k + 1) y0 y1 y2 y3 y4 y5))
 | 0 => ⟨fun _ _ _ _ _ _ _ _ r h => by simp [foretellkeep_BeginApart.l0] at h, fun _ _ _ _ _ _ _ _ r h => by simp [foretellkeep_BeginApart.l1] at h, fun _ _ _ _ _ _ r h => by simp [foretellkeep_BeginApart.l2] at h⟩
 | k + 1 => by
  obtain ⟨ih0, ih1, ih2⟩ := foretellkeep_BeginApart.mono_l k
  refine ⟨?_, ?_, ?_⟩
  ·
   intro y0 y1 y2 y3 y4 y5 y6 y7
   unfold foretellkeep_BeginApart.l0
   repeat' first
   | (with_reducible exact ih0 _ _ _ _ _ _ _ _)
   | (with_reducible exact ih1 _ _ _ _ _ _ _ _)
   | (with_reducible exact LeO.refl _)
   | (with_reducible exact LeO.none _)
   | (with_reducible refine LeO.ite ?_ ?_)
   | (with_reducible refine LeO.bind ?_ (fun _ => ?_))
   | exact ih0 _ _ _ _ _ _ _ _
   | exact ih1 _ _ _ _ _ _ _ _
   | exact LeO.none _
   | refine LeO.ite ?_ ?_
   | refine LeO.bind ?_ (fun _ => ?_)
  ·
   intro y0 y1 y2 y3 y4 y5 y6 y7
   unfold foretellkeep_BeginApart.l1
   repeat' first
   | (with_reducible exact ih1 _ _ _ _ _ _ _ _)
   | (with_reducible exact ih2 _ _ _ _ _ _)
   | (with_reducible exact LeO.refl _)
   | (with_reducible exact LeO.none _)
   | (with_reducible refine LeO.ite ?_ ?_)
   | (with_reducible refine LeO.bind ?_ (fun _ => ?_))
   | exact ih1 _ _ _ _ _ _ _ _
   | exact ih2 _ _ _ _ _ _
   | exact LeO.none _
   | refine LeO.ite ?_ ?_
   | refine LeO.bind ?_ (fun _ => ?_)
  ·
   intro y0 y1 y2 y3 y4 y5
   unfold foretellkeep_BeginApart.l2
   repeat' first
   | (with_reducible exact ih2 _ _ _ _ _ _)
   | (with_reducible exact LeO.refl _)
   | (with_reducible exact LeO.none _)
   | (with_reducible refine LeO.ite ?_ ?_)
   | (with_reducible refine LeO.bind ?_ (fun _ => ?_))
   | exact ih2 _ _ _ _ _ _
   | exact LeO.none _
   | refine LeO.ite ?_ ?_
   | refine LeO.bind ?_ (fun _ => ?_)
theorem foretellkeep_BeginApart.mono : ∀ a0 a1 a2 a3 a4 a5 a6 a7 k, LeO (foretellkeep_BeginApart.f k a0 a1 a2 a3 a4 a5 a6 a7) (foretellkeep_BeginApart.f (k + 1) a0 a1 a2 a3 a4 a5 a6 a7) := by
 intro a0 a1 a2 a3 a4 a5 a6 a7 k
 obtain ⟨ih0, ih1, ih2⟩ := foretellkeep_BeginApart.mono_l k
 unfold foretellkeep_BeginApart.f
 repeat' first
   | (with_reducible exact ih0 _ _ _ _ _ _ _ _)
   | (with_reducible exact foretellkeep_Task.mono _ _ _ _ _ _ _ _ _ _)
   | (with_reducible exact foretellkeep_joined.mono _ _ _)
   | (with_reducible exact model_First.mono _ _ _)
   | (with_reducible exact product_Begin.mono _ _ _ _ _)
   | (with_reducible exact LeO.refl _)
   | (with_reducible exact LeO.none _)
   | (with_reducible refine LeO.ite ?_ ?_)
   | (with_reducible refine LeO.bind ?_ (fun _ => ?_))
   | exact ih0 _ _ _ _ _ _ _ _
   | exact foretellkeep_Task.mono _ _ _ _ _ _ _ _ _ _
   | exact foretellkeep_joined.mono _ _ _
   | exact model_First.mono _ _ _
   | exact product_Begin.mono _ _ _ _ _
   | exact LeO.none _
   | refine LeO.ite ?_ ?_
   | refine LeO.bind ?_ (fun _ => ?_)
set_option maxHeartbeats 8000000 in
set_option maxRecDepth 100000 in
theorem foretellkeep_BeginApart.calls (k : Nat) (a0_0 : Int) (a0_1 : Int) (a0_2 : Int) (a0_3 : Int) (a0_4 : Int) (a0_5 : Int) (A0_6 : Option Addr) (c0_6 : Nat) (l0_6 : List (S124)) (A1 : Option Addr) (c1 : Nat) (l1 : List (S152)) (r : Bool) (w : World) (hr0_6 : Kd.C k124 w A0_6 l0_6.length l0_6) (hc0_6 : l0_6.length ≤ c0_6) (hr1 : Kd.C k152 w A1 l1.length l1) (hc1 : l1.length ≤ c1) (hG_ : Glob w) (hr_ : Aside0 (r = true)) (h : foretellkeep_BeginApart.f k a0_0 a0_1 a0_2 a0_3 a0_4 a0_5 l0_6 l1 = some r) :
  Calls Tryd.prog 3 #[.agg #[.int .i64 a0_0, .int .i64 a0_1, .int .i64 a0_2, .int .i64 a0_3, .int .i64 a0_4, .int .i64 a0_5, .slice A0_6 l0_6.length c0_6], .slice A1 l1.length c1] w fun e w' => e = .returned (.bool r) ∧ Below w.heap.size w w' := by
 have hu25 := Tryd.underlying25
 have hu34 := Tryd.underlying34
 have hu30 := Tryd.underlying30
 have HR0_6 := Aside0.mk hr0_6
 have HC0_6 := Aside0.mk hc0_6
 clear hr0_6 hc0_6
 have HR1 := Aside0.mk hr1
 have HC1 := Aside0.mk hc1
 clear hr1 hc1
 have HB := Aside0.mk (Below.refl w.heap.size w)
 have H : ((foretellkeep_Task.f k a0_0 a0_1 a0_2 a0_3 a0_4 a0_5 l0_6 l1 3).bind fun bt248 => ((foretellkeep_joined.f k 10 (([bt248.2.2.2] : List (List (S72))))).bind fun t265 => ((product_Begin.f k bt248.1 bt248.2.1 bt248.2.2.1 bt248.2.2.2).bind fun bt268 => ((product_Begin.f k bt248.1 bt248.2.1 bt248.2.2.1 t265).bind fun bt272 => ((model_First.f k bt248.1 bt248.2.1).bind fun bt276 => (if 8 ≤ 35184372088832 then (foretellkeep_BeginApart.l0 k bt268.1 bt268.2 bt272.1 bt272.2 bt276.1 bt276.2 (List.replicate 8 0) 0) else (none))))))) = some r := h
 clear h
 replace H := Option.bind_eq_some_iff.mp H
 obtain ⟨⟨t248, t251, t254, t257⟩, A30, H⟩ := H
 replace H : ((foretellkeep_joined.f k 10 (([t257] : List (List (S72))))).bind fun t265 => ((product_Begin.f k t248 t251 t254 t257).bind fun bt268 => ((product_Begin.f k t248 t251 t254 t265).bind fun bt272 => ((model_First.f k t248 t251).bind fun bt276 => (if 8 ≤ 35184372088832 then (foretellkeep_BeginApart.l0 k bt268.1 bt268.2 bt272.1 bt272.2 bt276.1 bt276.2 (List.replicate 8 0) 0) else (none)))))) = some r := H
 have A3 := Aside0.mk A30
 clear A30
 obtain ⟨y262, hy262⟩ : ∃ y_ : List (List (S72)), y_ = (([t257] : List (List (S72)))) := ⟨_, rfl⟩
 replace H : ((foretellkeep_joined.f k 10 y262).bind fun t265 => ((product_Begin.f k t248 t251 t254 t257).bind fun bt268 => ((product_Begin.f k t248 t251 t254 t265).bind fun bt272 => ((model_First.f k t248 t251).bind fun bt276 => (if 8 ≤ 35184372088832 then (foretellkeep_BeginApart.l0 k bt268.1 bt268.2 bt272.1 bt272.2 bt276.1 bt276.2 (List.replicate 8 0) 0) else (none)))))) = some r := by first | (rw [hy262]; with_reducible exact H) | (have H2_ := (Option.bind_some _ _).symm.trans H; rw [hy262]; with_reducible exact H2_) | (have H2_ := (Option.bind_some _ _).symm.trans H; with_reducible exact H2_) | with_reducible exact H | (rw [hy262]; exact H) | exact H
 have Ny262 := Aside0.mk hy262
 clear hy262
 replace H := Option.bind_eq_some_iff.mp H
 obtain ⟨t265, A40, H⟩ := H
 replace H : ((product_Begin.f k t248 t251 t254 t257).bind fun bt268 => ((product_Begin.f k t248 t251 t254 t265).bind fun bt272 => ((model_First.f k t248 t251).bind fun bt276 => (if 8 ≤ 35184372088832 then (foretellkeep_BeginApart.l0 k bt268.1 bt268.2 bt272.1 bt272.2 bt276.1 bt276.2 (List.replicate 8 0) 0) else (none))))) = some r := H
 have A4 := Aside0.mk A40
 clear A40
 replace H := Option.bind_eq_some_iff.mp H
 obtain ⟨⟨t268, t271⟩, A50, H⟩ := H
 replace H : ((product_Begin.f k t248 t251 t254 t265).bind fun bt272 => ((model_First.f k t248 t251).bind fun bt276 => (if 8 ≤ 35184372088832 then (foretellkeep_BeginApart.l0 k t268 t271 bt272.1 bt272.2 bt276.1 bt276.2 (List.replicate 8 0) 0) else (none)))) = some r := H
 have A5 := Aside0.mk A50
 clear A50
 replace H := Option.bind_eq_some_iff.mp H
 obtain ⟨⟨t272, t275⟩, A60, H⟩ := H
 replace H : ((model_First.f k t248 t251).bind fun bt276 => (if 8 ≤ 35184372088832 then (foretellkeep_BeginApart.l0 k t268 t271 t272 t275 bt276.1 bt276.2 (List.replicate 8 0) 0) else (none))) = some r := H
 have A6 := Aside0.mk A60
 clear A60
 replace H := Option.bind_eq_some_iff.mp H
 obtain ⟨⟨t276, t277⟩, A70, H⟩ := H
 replace H : (if 8 ≤ 35184372088832 then (foretellkeep_BeginApart.l0 k t268 t271 t272 t275 t276 t277 (List.replicate 8 0) 0) else (none)) = some r := H
 have A7 := Aside0.mk A70
 clear A70
 by_cases c8 : 8 ≤ 35184372088832
 ·
  rw [if_pos c8] at H
  have c8b0 := eq_true c8
  have c8b1 : decide (8 ≤ 35184372088832) = true := decide_eq_true c8
  clear c8
  obtain ⟨y278, hy278⟩ : ∃ y_ : List Int, y_ = (List.replicate 8 0) := ⟨_, rfl⟩
  replace H : (foretellkeep_BeginApart.l0 k t268 t271 t272 t275 t276 t277 y278 0) = some r := by first | (rw [hy278]; with_reducible exact H) | (have H2_ := (Option.bind_some _ _).symm.trans H; rw [hy278]; with_reducible exact H2_) | (have H2_ := (Option.bind_some _ _).symm.trans H; with_reducible exact H2_) | with_reducible exact H | (rw [hy278]; exact H) | exact H
  have Ny278 := Aside0.mk hy278
  clear hy278
  have H' := Aside0.mk H
  clear H
  go_enter Tryd.func3, Tryd.ntmps3
  go_wp2_with (first | ((with_reducible refine gate_dst (N := 2) rfl ?_); refine box_event ?hg (N := 2) ?hd (cs := #[.int .i64 a0_0, .int .i64 a0_1, .int .i64 a0_2, .int .i64 a0_3, .int .i64 a0_4, .int .i64 a0_5, .slice A0_6 l0_6.length c0_6]) (t := 25) ?hr ?_; (case hd => rfl); (case hg => rfl); (case hr => first | (go_simp; done) | (go_simp; rfl)); intro gb247 hg w9 hbox hb; have n0_ := Aside0.mk (below_step (by repeat (first | (with_reducible first | exact HB.out | apply below_alloc | apply pw_below_drewN | apply below_drew1) | exact HB.out)) hb); have n1_ := Aside0.mk (hbox); have n2_ := Aside0.mk ((by rw [hg]; exact (below_size (by repeat (first | (with_reducible first | exact HB.out | apply below_alloc | apply pw_below_drewN | apply below_drew1) | exact HB.out))) : w.heap.size ≤ gb247)); have n3_ := Aside0.mk ((by rw [hg]; exact (below_size (by repeat (first | (with_reducible first | exact HB.out | apply below_alloc | apply pw_below_drewN | apply below_drew1) | exact HB.out))) : w.heap.size ≤ gb247)); clear HB; have HB := n0_; have BK247 := n1_; have GW247 := n2_; have GE247 := n3_; clear n0_ n1_ n2_ n3_; clear hb hbox hg; have hcz10_0 : w9.cell? ⟨gb247, 0, none⟩ = some (.int .i64 a0_0) := (blk_cell BK247.out 0).trans rfl; have hcz10_1 : w9.cell? ⟨gb247, 1, none⟩ = some (.int .i64 a0_1) := (blk_cell BK247.out 1).trans rfl; have hcz10_2 : w9.cell? ⟨gb247, 2, none⟩ = some (.int .i64 a0_2) := (blk_cell BK247.out 2).trans rfl; have hcz10_3 : w9.cell? ⟨gb247, 3, none⟩ = some (.int .i64 a0_3) := (blk_cell BK247.out 3).trans rfl; have hcz10_4 : w9.cell? ⟨gb247, 4, none⟩ = some (.int .i64 a0_4) := (blk_cell BK247.out 4).trans rfl; have hcz10_5 : w9.cell? ⟨gb247, 5, none⟩ = some (.int .i64 a0_5) := (blk_cell BK247.out 5).trans rfl; have hcz10_6 : w9.cell? ⟨gb247, 6, none⟩ = some (.slice A0_6 l0_6.length c0_6) := (blk_cell BK247.out 6).trans rfl; have hfz10_0 := blk_frozen BK247.out 0; have hfz10_1 := blk_frozen BK247.out 1; have hfz10_2 := blk_frozen BK247.out 2; have hfz10_3 := blk_frozen BK247.out 3; have hfz10_4 := blk_frozen BK247.out 4; have hfz10_5 := blk_frozen BK247.out 5; have hfz10_6 := blk_frozen BK247.out 6) | ((with_reducible refine gate_callee (f := 9) rfl ?_); refine goesL_ (some 20) rfl rfl Tryd.func9 (by kernel_rfl) rfl #[.agg #[.int .i64 a0_0, .int .i64 a0_1, .int .i64 a0_2, .int .i64 a0_3, .int .i64 a0_4, .int .i64 a0_5, .slice A0_6 l0_6.length c0_6], .slice A1 l1.length c1, .int .i64 3] rfl (by (try simp only [List.map_toArray, List.map_cons, List.map_nil]); first | done | rfl | (simp only [List.length_drop, List.length_take]; rfl)) ?_; (with_reducible refine (foretellkeep_Task.calls k a0_0 a0_1 a0_2 a0_3 a0_4 a0_5 _ _ l0_6 _ _ l1 3 t248 t251 t254 t257 _ ?side1 ?side2 ?side3 ?side4 A3.out).mono ?_); (case side1 => repeat (first | exact (Kd.C_below HR0_6.out HB.out) | (with_reducible refine Kd.C_alloc ?_ _) | (with_reducible refine Kd.C_drewN ?_ _) | (with_reducible refine Kd.C_drew ?_))); (case side2 => exact HC0_6.out); (case side3 => repeat (first | exact (Kd.C_below HR1.out HB.out) | (with_reducible refine Kd.C_alloc ?_ _) | (with_reducible refine Kd.C_drewN ?_ _) | (with_reducible refine Kd.C_drew ?_))); (case side4 => exact HC1.out); rintro e w11 ⟨v249, v252, v255, v258, rfl, ho0, ho1, ho2, ho3, hb⟩; refine ⟨_, rfl, ?_⟩; have n0_ := Aside0.mk (Kd.V_lower (Kd.V_mono (ok' := fun k_ => some k_ ≠ (v252 : Value).ownBlock ∧ some k_ ≠ (v255 : Value).ownBlock ∧ k_ ≠ gb247) (Kd.R_V (Kd.R_bound (Kd.R_apart' (Kd.R_apart' ho0 (Kd.R_typed ho1) (by decide)) (Kd.S_typed ho2) (by decide)))) (fun k_ hk_ => ⟨hk_.1.1.2, hk_.1.2, (Kd.freshB (g := gb247) (o := .cells #[.int .i64 a0_0, .int .i64 a0_1, .int .i64 a0_2, .int .i64 a0_3, .int .i64 a0_4, .int .i64 a0_5, .slice A0_6 l0_6.length c0_6] 25 (0, 0)) (by (with_reducible repeat (first | refine blk_drewN ?_ _ | refine blk_drew ?_ | refine blk_alloc ?_ _)); exact BK247.out) k_ hk_.2.1)⟩)) (below_size (by repeat (first | (with_reducible first | exact HB.out | apply below_alloc | apply pw_below_drewN | apply below_drew1 | refine below_set ?_ GE247.out) | exact HB.out)))); have n1_ := Aside0.mk (Kd.N_lower (Kd.N_mono (ok' := fun k_ => some k_ ≠ (v255 : Value).ownBlock ∧ k_ ≠ gb247) (Kd.R_N (Kd.R_bound (Kd.R_apart' ho1 (Kd.S_typed ho2) (by decide)))) (fun k_ hk_ => ⟨hk_.1.2, (Kd.freshB (g := gb247) (o := .cells #[.int .i64 a0_0, .int .i64 a0_1, .int .i64 a0_2, .int .i64 a0_3, .int .i64 a0_4, .int .i64 a0_5, .slice A0_6 l0_6.length c0_6] 25 (0, 0)) (by (with_reducible repeat (first | refine blk_drewN ?_ _ | refine blk_drew ?_ | refine blk_alloc ?_ _)); exact BK247.out) k_ hk_.2.1)⟩)) (below_size (by repeat (first | (with_reducible first | exact HB.out | apply below_alloc | apply pw_below_drewN | apply below_drew1 | refine below_set ?_ GE247.out) | exact HB.out)))); have n2_ := Aside0.mk (Kd.N_lower (Kd.N_mono (ok' := fun k_ => some k_ ≠ (v252 : Value).ownBlock ∧ k_ ≠ gb247) (Kd.S_N (Kd.S_bound (Kd.S_apart' ho2 (Kd.R_typed ho1) (by decide)))) (fun k_ hk_ => ⟨hk_.1.2, (Kd.freshB (g := gb247) (o := .cells #[.int .i64 a0_0, .int .i64 a0_1, .int .i64 a0_2, .int .i64 a0_3, .int .i64 a0_4, .int .i64 a0_5, .slice A0_6 l0_6.length c0_6] 25 (0, 0)) (by (with_reducible repeat (first | refine blk_drewN ?_ _ | refine blk_drew ?_ | refine blk_alloc ?_ _)); exact BK247.out) k_ hk_.2.1)⟩)) (below_size (by repeat (first | (with_reducible first | exact HB.out | apply below_alloc | apply pw_below_drewN | apply below_drew1 | refine below_set ?_ GE247.out) | exact HB.out)))); have n3_ := Aside0.mk (Kd.V_lower (Kd.V_mono (ok' := fun k_ => some k_ ≠ (v252 : Value).ownBlock ∧ some k_ ≠ (v255 : Value).ownBlock ∧ k_ ≠ gb247) (Kd.R_V (Kd.R_bound (Kd.R_apart' (Kd.R_apart' ho3 (Kd.R_typed ho1) (by decide)) (Kd.S_typed ho2) (by decide)))) (fun k_ hk_ => ⟨hk_.1.1.2, hk_.1.2, (Kd.freshB (g := gb247) (o := .cells #[.int .i64 a0_0, .int .i64 a0_1, .int .i64 a0_2, .int .i64 a0_3, .int .i64 a0_4, .int .i64 a0_5, .slice A0_6 l0_6.length c0_6] 25 (0, 0)) (by (with_reducible repeat (first | refine blk_drewN ?_ _ | refine blk_drew ?_ | refine blk_alloc ?_ _)); exact BK247.out) k_ hk_.2.1)⟩)) (below_size (by repeat (first | (with_reducible first | exact HB.out | apply below_alloc | apply pw_below_drewN | apply below_drew1 | refine below_set ?_ GE247.out) | exact HB.out)))); have n4_ := Aside0.mk (blk_below (g := gb247) (o := .cells #[.int .i64 a0_0, .int .i64 a0_1, .int .i64 a0_2, .int .i64 a0_3, .int .i64 a0_4, .int .i64 a0_5, .slice A0_6 l0_6.length c0_6] 25 (0, 0)) (by (with_reducible repeat (first | refine blk_drewN ?_ _ | refine blk_drew ?_ | refine blk_alloc ?_ _)); exact BK247.out) hb); have n5_ := Aside0.mk (below_step (by repeat (first | (with_reducible first | exact HB.out | apply below_alloc | apply pw_below_drewN | apply below_drew1 | refine below_set ?_ GE247.out) | exact HB.out)) hb); clear BK247; clear HB; have HO250 := n0_; have HO253 := n1_; have HO256 := n2_; have HO259 := n3_; have BK247 := n4_; have HB := n5_; clear n0_ n1_ n2_ n3_ n4_ n5_; (try clear hb); (try clear hb2); (try clear hk); (try clear hi); (try clear ho0); (try clear ho1); (try clear ho2); (try clear ho3)) | ((with_reducible refine gate_dst (N := 5) rfl ?_); refine box_event ?hg (N := 5) ?hd (cs := #[.slice none 0 0, .slice none 0 0, .slice none 0 0, .slice none 0 0]) (t := 34) ?hr ?_; (case hd => rfl); (case hg => rfl); (case hr => first | (go_simp; done) | (go_simp; rfl)); intro gb260 hg w12 hbox hb; have n0_ := Aside0.mk (Kd.V_below (Kd.V_elderB (by (with_reducible repeat (first | apply Kd.V_alloc | apply Kd.V_drewN | apply Kd.V_drew)); exact HO250.out) gb260 (Nat.le_of_eq hg.symm)) hb); have n1_ := Aside0.mk (Kd.N_below (Kd.N_elderB (by (with_reducible repeat (first | apply Kd.N_alloc | apply Kd.N_drewN | apply Kd.N_drew)); exact HO253.out) gb260 (Nat.le_of_eq hg.symm)) hb); have n2_ := Aside0.mk (Kd.N_below (Kd.N_elderB (by (with_reducible repeat (first | apply Kd.N_alloc | apply Kd.N_drewN | apply Kd.N_drew)); exact HO256.out) gb260 (Nat.le_of_eq hg.symm)) hb); have n3_ := Aside0.mk (Kd.V_below (Kd.V_elderB (by (with_reducible repeat (first | apply Kd.V_alloc | apply Kd.V_drewN | apply Kd.V_drew)); exact HO259.out) gb260 (Nat.le_of_eq hg.symm)) hb); have n4_ := Aside0.mk (blk_below (g := gb247) (o := .cells #[.int .i64 a0_0, .int .i64 a0_1, .int .i64 a0_2, .int .i64 a0_3, .int .i64 a0_4, .int .i64 a0_5, .slice A0_6 l0_6.length c0_6] 25 (0, 0)) (by (with_reducible repeat (first | refine blk_drewN ?_ _ | refine blk_drew ?_ | refine blk_alloc ?_ _)); exact BK247.out) hb); have n5_ := Aside0.mk (below_step (by repeat (first | (with_reducible first | exact HB.out | apply below_alloc | apply pw_below_drewN | apply below_drew1 | refine below_set ?_ GE247.out) | exact HB.out)) hb); have n6_ := Aside0.mk (hbox); have n7_ := Aside0.mk ((by rw [hg]; exact (below_size (by repeat (first | (with_reducible first | exact HB.out | apply below_alloc | apply pw_below_drewN | apply below_drew1 | refine below_set ?_ GE247.out) | exact HB.out))) : w.heap.size ≤ gb260)); have n8_ := Aside0.mk ((by rw [hg]; exact (below_size (by repeat (first | (with_reducible first | exact HB.out | apply below_alloc | apply pw_below_drewN | apply below_drew1 | refine below_set ?_ GE247.out) | exact HB.out))) : w.heap.size ≤ gb260)); have n9_ := Aside0.mk ((by rw [hg]; exact Nat.ne_of_lt (blk_lt (g := gb247) (o := .cells #[.int .i64 a0_0, .int .i64 a0_1, .int .i64 a0_2, .int .i64 a0_3, .int .i64 a0_4, .int .i64 a0_5, .slice A0_6 l0_6.length c0_6] 25 (0, 0)) (by (with_reducible repeat (first | refine blk_drewN ?_ _ | refine blk_drew ?_ | refine blk_alloc ?_ _)); exact BK247.out)) : gb247 ≠ gb260)); have n10_ := Aside0.mk ((by rw [hg]; exact Nat.ne_of_gt (blk_lt (g := gb247) (o := .cells #[.int .i64 a0_0, .int .i64 a0_1, .int .i64 a0_2, .int .i64 a0_3, .int .i64 a0_4, .int .i64 a0_5, .slice A0_6 l0_6.length c0_6] 25 (0, 0)) (by (with_reducible repeat (first | refine blk_drewN ?_ _ | refine blk_drew ?_ | refine blk_alloc ?_ _)); exact BK247.out)) : gb260 ≠ gb247)); clear HO250; clear HO253; clear HO256; clear HO259; clear BK247; clear HB; have HO250 := n0_; have HO253 := n1_; have HO256 := n2_; have HO259 := n3_; have BK247 := n4_; have HB := n5_; have BK260 := n6_; have GW260 := n7_; have GE260 := n8_; have NB247_260 := n9_; have NB260_247 := n10_; clear n0_ n1_ n2_ n3_ n4_ n5_ n6_ n7_ n8_ n9_ n10_; clear hb hbox hg; obtain ⟨Ao13, co13, eo13⟩ := Kd.V_slice HO250.out; subst eo13; have hnb14 := NB260_247.out; have hnc14 := NB247_260.out; have hcz15_0 : w12.cell? ⟨gb260, 0, none⟩ = some (.slice none 0 0) := (blk_cell BK260.out 0).trans rfl; have hcz15_1 : w12.cell? ⟨gb260, 1, none⟩ = some (.slice none 0 0) := (blk_cell BK260.out 1).trans rfl; have hcz15_2 : w12.cell? ⟨gb260, 2, none⟩ = some (.slice none 0 0) := (blk_cell BK260.out 2).trans rfl; have hcz15_3 : w12.cell? ⟨gb260, 3, none⟩ = some (.slice none 0 0) := (blk_cell BK260.out 3).trans rfl; have hfz15_0 := blk_frozen BK260.out 0; have hfz15_1 := blk_frozen BK260.out 1; have hfz15_2 := blk_frozen BK260.out 2; have hfz15_3 := blk_frozen BK260.out 3; obtain ⟨Ao16, co16, eo16⟩ := Kd.N_slice HO253.out; subst eo16; obtain ⟨Ao17, co17, eo17⟩ := Kd.N_slice HO256.out; subst eo17; obtain ⟨Ao18, co18, eo18⟩ := Kd.V_slice HO259.out; subst eo18) | ((with_reducible refine gate_dst (N := 6) rfl ?_); refine box_event ?hg (N := 6) ?hd (cs := #[.slice none 0 0, .slice none 0 0, .slice none 0 0, .slice none 0 0]) (t := 34) ?hr ?_; (case hd => rfl); (case hg => rfl); (case hr => first | (go_simp; done) | (go_simp; rfl)); intro gb261 hg w19 hbox hb; have n0_ := Aside0.mk (Kd.V_below (Kd.V_elderB (by (with_reducible repeat (first | apply Kd.V_alloc | apply Kd.V_drewN | apply Kd.V_drew)); exact (Kd.V_mono (Kd.V_far (p := ⟨gb260, 3, none⟩) (Kd.V_far (p := ⟨gb260, 2, none⟩) (Kd.V_far (p := ⟨gb260, 1, none⟩) (Kd.V_far (p := ⟨gb260, 0, none⟩) (Kd.V_mono HO250.out (fun k_ hk => (⟨hk, hk.2⟩ : _ ∧ k_ ≠ gb260))) (fun _ hk => hk.2) (.slice Ao13 t248.length co13)) (fun _ hk => hk.2) (.slice Ao16 t251.length co16)) (fun _ hk => hk.2) (.slice Ao17 t254.length co17)) (fun _ hk => hk.2) (.slice Ao18 t257.length co18)) (fun _ h_ => h_.1))) gb261 (Nat.le_of_eq hg.symm)) hb); have n1_ := Aside0.mk (Kd.N_below (Kd.N_elderB (by (with_reducible repeat (first | apply Kd.N_alloc | apply Kd.N_drewN | apply Kd.N_drew)); exact (Kd.N_mono (Kd.N_far (p := ⟨gb260, 3, none⟩) (Kd.N_far (p := ⟨gb260, 2, none⟩) (Kd.N_far (p := ⟨gb260, 1, none⟩) (Kd.N_far (p := ⟨gb260, 0, none⟩) (Kd.N_mono HO253.out (fun k_ hk => (⟨hk, hk.2⟩ : _ ∧ k_ ≠ gb260))) (fun _ hk => hk.2) (.slice Ao13 t248.length co13)) (fun _ hk => hk.2) (.slice Ao16 t251.length co16)) (fun _ hk => hk.2) (.slice Ao17 t254.length co17)) (fun _ hk => hk.2) (.slice Ao18 t257.length co18)) (fun _ h_ => h_.1))) gb261 (Nat.le_of_eq hg.symm)) hb); have n2_ := Aside0.mk (Kd.N_below (Kd.N_elderB (by (with_reducible repeat (first | apply Kd.N_alloc | apply Kd.N_drewN | apply Kd.N_drew)); exact (Kd.N_mono (Kd.N_far (p := ⟨gb260, 3, none⟩) (Kd.N_far (p := ⟨gb260, 2, none⟩) (Kd.N_far (p := ⟨gb260, 1, none⟩) (Kd.N_far (p := ⟨gb260, 0, none⟩) (Kd.N_mono HO256.out (fun k_ hk => (⟨hk, hk.2⟩ : _ ∧ k_ ≠ gb260))) (fun _ hk => hk.2) (.slice Ao13 t248.length co13)) (fun _ hk => hk.2) (.slice Ao16 t251.length co16)) (fun _ hk => hk.2) (.slice Ao17 t254.length co17)) (fun _ hk => hk.2) (.slice Ao18 t257.length co18)) (fun _ h_ => h_.1))) gb261 (Nat.le_of_eq hg.symm)) hb); have n3_ := Aside0.mk (Kd.V_below (Kd.V_elderB (by (with_reducible repeat (first | apply Kd.V_alloc | apply Kd.V_drewN | apply Kd.V_drew)); exact (Kd.V_mono (Kd.V_far (p := ⟨gb260, 3, none⟩) (Kd.V_far (p := ⟨gb260, 2, none⟩) (Kd.V_far (p := ⟨gb260, 1, none⟩) (Kd.V_far (p := ⟨gb260, 0, none⟩) (Kd.V_mono HO259.out (fun k_ hk => (⟨hk, hk.2⟩ : _ ∧ k_ ≠ gb260))) (fun _ hk => hk.2) (.slice Ao13 t248.length co13)) (fun _ hk => hk.2) (.slice Ao16 t251.length co16)) (fun _ hk => hk.2) (.slice Ao17 t254.length co17)) (fun _ hk => hk.2) (.slice Ao18 t257.length co18)) (fun _ h_ => h_.1))) gb261 (Nat.le_of_eq hg.symm)) hb); have n4_ := Aside0.mk (blk_below (g := gb247) (o := .cells #[.int .i64 a0_0, .int .i64 a0_1, .int .i64 a0_2, .int .i64 a0_3, .int .i64 a0_4, .int .i64 a0_5, .slice A0_6 l0_6.length c0_6] 25 (0, 0)) (by (with_reducible repeat (first | refine blk_drewN ?_ _ | refine blk_drew ?_ | refine blk_alloc ?_ _)); refine blk_far ?_ NB247_260.out _; (with_reducible repeat (first | refine blk_drewN ?_ _ | refine blk_drew ?_ | refine blk_alloc ?_ _)); refine blk_far ?_ NB247_260.out _; (with_reducible repeat (first | refine blk_drewN ?_ _ | refine blk_drew ?_ | refine blk_alloc ?_ _)); refine blk_far ?_ NB247_260.out _; (with_reducible repeat (first | refine blk_drewN ?_ _ | refine blk_drew ?_ | refine blk_alloc ?_ _)); refine blk_far ?_ NB247_260.out _; (with_reducible repeat (first | refine blk_drewN ?_ _ | refine blk_drew ?_ | refine blk_alloc ?_ _)); exact BK247.out) hb); have n5_ := Aside0.mk (blk_below (g := gb260) (o := .cells #[.slice Ao13 t248.length co13, .slice Ao16 t251.length co16, .slice Ao17 t254.length co17, .slice Ao18 t257.length co18] 34 (0, 0)) (by (with_reducible repeat (first | refine blk_drewN ?_ _ | refine blk_drew ?_ | refine blk_alloc ?_ _)); refine blk_put (cs := #[.slice Ao13 t248.length co13, .slice Ao16 t251.length co16, .slice Ao17 t254.length co17, .slice none 0 0]) ?_ 3 _ rfl; (with_reducible repeat (first | refine blk_drewN ?_ _ | refine blk_drew ?_ | refine blk_alloc ?_ _)); refine blk_put (cs := #[.slice Ao13 t248.length co13, .slice Ao16 t251.length co16, .slice none 0 0, .slice none 0 0]) ?_ 2 _ rfl; (with_reducible repeat (first | refine blk_drewN ?_ _ | refine blk_drew ?_ | refine blk_alloc ?_ _)); refine blk_put (cs := #[.slice Ao13 t248.length co13, .slice none 0 0, .slice none 0 0, .slice none 0 0]) ?_ 1 _ rfl; (with_reducible repeat (first | refine blk_drewN ?_ _ | refine blk_drew ?_ | refine blk_alloc ?_ _)); refine blk_put (cs := #[.slice none 0 0, .slice none 0 0, .slice none 0 0, .slice none 0 0]) ?_ 0 _ rfl; (with_reducible repeat (first | refine blk_drewN ?_ _ | refine blk_drew ?_ | refine blk_alloc ?_ _)); exact BK260.out) hb); have n6_ := Aside0.mk (below_step (by repeat (first | (with_reducible first | exact HB.out | apply below_alloc | apply pw_below_drewN | apply below_drew1 | refine below_set ?_ GE247.out | refine below_set ?_ GE260.out) | exact HB.out)) hb); have n7_ := Aside0.mk (hbox); have n8_ := Aside0.mk ((by rw [hg]; exact (below_size (by repeat (first | (with_reducible first | exact HB.out | apply below_alloc | apply pw_below_drewN | apply below_drew1 | refine below_set ?_ GE247.out | refine below_set ?_ GE260.out) | exact HB.out))) : w.heap.size ≤ gb261)); have n9_ := Aside0.mk ((by rw [hg]; exact (below_size (by repeat (first | (with_reducible first | exact HB.out | apply below_alloc | apply pw_below_drewN | apply below_drew1 | refine below_set ?_ GE247.out | refine below_set ?_ GE260.out) | exact HB.out))) : w.heap.size ≤ gb261)); have n10_ := Aside0.mk ((by rw [hg]; exact Nat.ne_of_lt (blk_lt (g := gb247) (o := .cells #[.int .i64 a0_0, .int .i64 a0_1, .int .i64 a0_2, .int .i64 a0_3, .int .i64 a0_4, .int .i64 a0_5, .slice A0_6 l0_6.length c0_6] 25 (0, 0)) (by (with_reducible repeat (first | refine blk_drewN ?_ _ | refine blk_drew ?_ | refine blk_alloc ?_ _)); refine blk_far ?_ NB247_260.out _; (with_reducible repeat (first | refine blk_drewN ?_ _ | refine blk_drew ?_ | refine blk_alloc ?_ _)); refine blk_far ?_ NB247_260.out _; (with_reducible repeat (first | refine blk_drewN ?_ _ | refine blk_drew ?_ | refine blk_alloc ?_ _)); refine blk_far ?_ NB247_260.out _; (with_reducible repeat (first | refine blk_drewN ?_ _ | refine blk_drew ?_ | refine blk_alloc ?_ _)); refine blk_far ?_ NB247_260.out _; (with_reducible repeat (first | refine blk_drewN ?_ _ | refine blk_drew ?_ | refine blk_alloc ?_ _)); exact BK247.out)) : gb247 ≠ gb261)); have n11_ := Aside0.mk ((by rw [hg]; exact Nat.ne_of_gt (blk_lt (g := gb247) (o := .cells #[.int .i64 a0_0, .int .i64 a0_1, .int .i64 a0_2, .int .i64 a0_3, .int .i64 a0_4, .int .i64 a0_5, .slice A0_6 l0_6.length c0_6] 25 (0, 0)) (by (with_reducible repeat (first | refine blk_drewN ?_ _ | refine blk_drew ?_ | refine blk_alloc ?_ _)); refine blk_far ?_ NB247_260.out _; (with_reducible repeat (first | refine blk_drewN ?_ _ | refine blk_drew ?_ | refine blk_alloc ?_ _)); refine blk_far ?_ NB247_260.out _; (with_reducible repeat (first | refine blk_drewN ?_ _ | refine blk_drew ?_ | refine blk_alloc ?_ _)); refine blk_far ?_ NB247_260.out _; (with_reducible repeat (first | refine blk_drewN ?_ _ | refine blk_drew ?_ | refine blk_alloc ?_ _)); refine blk_far ?_ NB247_260.out _; (with_reducible repeat (first | refine blk_drewN ?_ _ | refine blk_drew ?_ | refine blk_alloc ?_ _)); exact BK247.out)) : gb261 ≠ gb247)); have n12_ := Aside0.mk ((by rw [hg]; exact Nat.ne_of_lt (blk_lt (g := gb260) (o := .cells #[.slice Ao13 t248.length co13, .slice Ao16 t251.length co16, .slice Ao17 t254.length co17, .slice Ao18 t257.length co18] 34 (0, 0)) (by (with_reducible repeat (first | refine blk_drewN ?_ _ | refine blk_drew ?_ | refine blk_alloc ?_ _)); refine blk_put (cs := #[.slice Ao13 t248.length co13, .slice Ao16 t251.length co16, .slice Ao17 t254.length co17, .slice none 0 0]) ?_ 3 _ rfl; (with_reducible repeat (first | refine blk_drewN ?_ _ | refine blk_drew ?_ | refine blk_alloc ?_ _)); refine blk_put (cs := #[.slice Ao13 t248.length co13, .slice Ao16 t251.length co16, .slice none 0 0, .slice none 0 0]) ?_ 2 _ rfl; (with_reducible repeat (first | refine blk_drewN ?_ _ | refine blk_drew ?_ | refine blk_alloc ?_ _)); refine blk_put (cs := #[.slice Ao13 t248.length co13, .slice none 0 0, .slice none 0 0, .slice none 0 0]) ?_ 1 _ rfl; (with_reducible repeat (first | refine blk_drewN ?_ _ | refine blk_drew ?_ | refine blk_alloc ?_ _)); refine blk_put (cs := #[.slice none 0 0, .slice none 0 0, .slice none 0 0, .slice none 0 0]) ?_ 0 _ rfl; (with_reducible repeat (first | refine blk_drewN ?_ _ | refine blk_drew ?_ | refine blk_alloc ?_ _)); exact BK260.out)) : gb260 ≠ gb261)); have n13_ := Aside0.mk ((by rw [hg]; exact Nat.ne_of_gt (blk_lt (g := gb260) (o := .cells #[.slice Ao13 t248.length co13, .slice Ao16 t251.length co16, .slice Ao17 t254.length co17, .slice Ao18 t257.length co18] 34 (0, 0)) (by (with_reducible repeat (first | refine blk_drewN ?_ _ | refine blk_drew ?_ | refine blk_alloc ?_ _)); refine blk_put (cs := #[.slice Ao13 t248.length co13, .slice Ao16 t251.length co16, .slice Ao17 t254.length co17, .slice none 0 0]) ?_ 3 _ rfl; (with_reducible repeat (first | refine blk_drewN ?_ _ | refine blk_drew ?_ | refine blk_alloc ?_ _)); refine blk_put (cs := #[.slice Ao13 t248.length co13, .slice Ao16 t251.length co16, .slice none 0 0, .slice none 0 0]) ?_ 2 _ rfl; (with_reducible repeat (first | refine blk_drewN ?_ _ | refine blk_drew ?_ | refine blk_alloc ?_ _)); refine blk_put (cs := #[.slice Ao13 t248.length co13, .slice none 0 0, .slice none 0 0, .slice none 0 0]) ?_ 1 _ rfl; (with_reducible repeat (first | refine blk_drewN ?_ _ | refine blk_drew ?_ | refine blk_alloc ?_ _)); refine blk_put (cs := #[.slice none 0 0, .slice none 0 0, .slice none 0 0, .slice none 0 0]) ?_ 0 _ rfl; (with_reducible repeat (first | refine blk_drewN ?_ _ | refine blk_drew ?_ | refine blk_alloc ?_ _)); exact BK260.out)) : gb261 ≠ gb260)); clear HO250; clear HO253; clear HO256; clear HO259; clear BK247; clear BK260; clear HB; have HO250 := n0_; have HO253 := n1_; have HO256 := n2_; have HO259 := n3_; have BK247 := n4_; have BK260 := n5_; have HB := n6_; have BK261 := n7_; have GW261 := n8_; have GE261 := n9_; have NB247_261 := n10_; have NB261_247 := n11_; have NB260_261 := n12_; have NB261_260 := n13_; clear n0_ n1_ n2_ n3_ n4_ n5_ n6_ n7_ n8_ n9_ n10_ n11_ n12_ n13_; clear hb hbox hg; have hnb20 := NB261_247.out; have hnc20 := NB247_261.out; have hnb21 := NB261_260.out; have hnc21 := NB260_261.out; have hcz22_0 : w19.cell? ⟨gb261, 0, none⟩ = some (.slice none 0 0) := (blk_cell BK261.out 0).trans rfl; have hcz22_1 : w19.cell? ⟨gb261, 1, none⟩ = some (.slice none 0 0) := (blk_cell BK261.out 1).trans rfl; have hcz22_2 : w19.cell? ⟨gb261, 2, none⟩ = some (.slice none 0 0) := (blk_cell BK261.out 2).trans rfl; have hcz22_3 : w19.cell? ⟨gb261, 3, none⟩ = some (.slice none 0 0) := (blk_cell BK261.out 3).trans rfl; have hfz22_0 := blk_frozen BK261.out 0; have hfz22_1 := blk_frozen BK261.out 1; have hfz22_2 := blk_frozen BK261.out 2; have hfz22_3 := blk_frozen BK261.out 3) | ((with_reducible refine gate_store (t := 34) (p := 6) rfl ?_); refine store_event (t := 34) (p := 6) (v := ?vo_w23) (w1 := ((((w19.setCell ⟨gb261, 0, none⟩ (.slice Ao13 t248.length co13)).setCell ⟨gb261, 1, none⟩ (.slice Ao16 t251.length co16)).setCell ⟨gb261, 2, none⟩ (.slice Ao17 t254.length co17)).setCell ⟨gb261, 3, none⟩ (.slice Ao18 t257.length co18))) ?hg ?ho ?hn ?hr ?_; (case ho => rfl); (case hg => rfl); (case hn => rfl); (case hr => first | (go_simp; done) | (go_simp; rfl)); intro w23 hw; have n0_ : Aside0 (Kd.V k77 77 w23 w.heap.size (fun k_ => some k_ ≠ (.slice Ao16 t251.length co16 : Value).ownBlock ∧ some k_ ≠ (.slice Ao17 t254.length co17 : Value).ownBlock ∧ k_ ≠ gb247 ∧ k_ ≠ gb260 ∧ k_ ≠ gb261) (.slice Ao13 t248.length co13) t248) := ⟨(by rw [hw]; exact (by (with_reducible repeat (first | apply Kd.V_alloc | apply Kd.V_drewN | apply Kd.V_drew)); exact Kd.V_mono (Kd.V_far (p := ⟨gb261, 3, none⟩) (Kd.V_far (p := ⟨gb261, 2, none⟩) (Kd.V_far (p := ⟨gb261, 1, none⟩) (Kd.V_far (p := ⟨gb261, 0, none⟩) (Kd.V_mono HO250.out (fun k_ hk => (⟨hk, hk.2⟩ : _ ∧ k_ ≠ gb261))) (fun _ hk => hk.2) (.slice Ao13 t248.length co13)) (fun _ hk => hk.2) (.slice Ao16 t251.length co16)) (fun _ hk => hk.2) (.slice Ao17 t254.length co17)) (fun _ hk => hk.2) (.slice Ao18 t257.length co18)) (fun _ hk => ⟨hk.1.1.1.1, ⟨hk.1.1.1.2.1, ⟨hk.1.1.1.2.2, ⟨hk.1.1.2, hk.1.2⟩⟩⟩⟩)))⟩; have n1_ : Aside0 (Kd.N k118 118 w23 w.heap.size (fun k_ => some k_ ≠ (.slice Ao17 t254.length co17 : Value).ownBlock ∧ k_ ≠ gb247 ∧ k_ ≠ gb260 ∧ k_ ≠ gb261) (.slice Ao16 t251.length co16) t251) := ⟨(by rw [hw]; exact (by (with_reducible repeat (first | apply Kd.N_alloc | apply Kd.N_drewN | apply Kd.N_drew)); exact Kd.N_mono (Kd.N_far (p := ⟨gb261, 3, none⟩) (Kd.N_far (p := ⟨gb261, 2, none⟩) (Kd.N_far (p := ⟨gb261, 1, none⟩) (Kd.N_far (p := ⟨gb261, 0, none⟩) (Kd.N_mono HO253.out (fun k_ hk => (⟨hk, hk.2⟩ : _ ∧ k_ ≠ gb261))) (fun _ hk => hk.2) (.slice Ao13 t248.length co13)) (fun _ hk => hk.2) (.slice Ao16 t251.length co16)) (fun _ hk => hk.2) (.slice Ao17 t254.length co17)) (fun _ hk => hk.2) (.slice Ao18 t257.length co18)) (fun _ hk => ⟨hk.1.1.1.1, ⟨hk.1.1.1.2, ⟨hk.1.1.2, hk.1.2⟩⟩⟩)))⟩; have n2_ : Aside0 (Kd.N (Kd.slice 72 k72) 32 w23 w.heap.size (fun k_ => some k_ ≠ (.slice Ao16 t251.length co16 : Value).ownBlock ∧ k_ ≠ gb247 ∧ k_ ≠ gb260 ∧ k_ ≠ gb261) (.slice Ao17 t254.length co17) t254) := ⟨(by rw [hw]; exact (by (with_reducible repeat (first | apply Kd.N_alloc | apply Kd.N_drewN | apply Kd.N_drew)); exact Kd.N_mono (Kd.N_far (p := ⟨gb261, 3, none⟩) (Kd.N_far (p := ⟨gb261, 2, none⟩) (Kd.N_far (p := ⟨gb261, 1, none⟩) (Kd.N_far (p := ⟨gb261, 0, none⟩) (Kd.N_mono HO256.out (fun k_ hk => (⟨hk, hk.2⟩ : _ ∧ k_ ≠ gb261))) (fun _ hk => hk.2) (.slice Ao13 t248.length co13)) (fun _ hk => hk.2) (.slice Ao16 t251.length co16)) (fun _ hk => hk.2) (.slice Ao17 t254.length co17)) (fun _ hk => hk.2) (.slice Ao18 t257.length co18)) (fun _ hk => ⟨hk.1.1.1.1, ⟨hk.1.1.1.2, ⟨hk.1.1.2, hk.1.2⟩⟩⟩)))⟩; have n3_ : Aside0 (Kd.V k72 72 w23 w.heap.size (fun k_ => some k_ ≠ (.slice Ao16 t251.length co16 : Value).ownBlock ∧ some k_ ≠ (.slice Ao17 t254.length co17 : Value).ownBlock ∧ k_ ≠ gb247 ∧ k_ ≠ gb260 ∧ k_ ≠ gb261) (.slice Ao18 t257.length co18) t257) := ⟨(by rw [hw]; exact (by (with_reducible repeat (first | apply Kd.V_alloc | apply Kd.V_drewN | apply Kd.V_drew)); exact Kd.V_mono (Kd.V_far (p := ⟨gb261, 3, none⟩) (Kd.V_far (p := ⟨gb261, 2, none⟩) (Kd.V_far (p := ⟨gb261, 1, none⟩) (Kd.V_far (p := ⟨gb261, 0, none⟩) (Kd.V_mono HO259.out (fun k_ hk => (⟨hk, hk.2⟩ : _ ∧ k_ ≠ gb261))) (fun _ hk => hk.2) (.slice Ao13 t248.length co13)) (fun _ hk => hk.2) (.slice Ao16 t251.length co16)) (fun _ hk => hk.2) (.slice Ao17 t254.length co17)) (fun _ hk => hk.2) (.slice Ao18 t257.length co18)) (fun _ hk => ⟨hk.1.1.1.1, ⟨hk.1.1.1.2.1, ⟨hk.1.1.1.2.2, ⟨hk.1.1.2, hk.1.2⟩⟩⟩⟩)))⟩; have n4_ : Aside0 (w23.heap[gb247]? = some (.cells #[.int .i64 a0_0, .int .i64 a0_1, .int .i64 a0_2, .int .i64 a0_3, .int .i64 a0_4, .int .i64 a0_5, .slice A0_6 l0_6.length c0_6] 25 (0, 0))) := ⟨(by rw [hw]; exact (by (with_reducible repeat (first | refine blk_drewN ?_ _ | refine blk_drew ?_ | refine blk_alloc ?_ _)); refine blk_far ?_ NB247_261.out _; (with_reducible repeat (first | refine blk_drewN ?_ _ | refine blk_drew ?_ | refine blk_alloc ?_ _)); refine blk_far ?_ NB247_261.out _; (with_reducible repeat (first | refine blk_drewN ?_ _ | refine blk_drew ?_ | refine blk_alloc ?_ _)); refine blk_far ?_ NB247_261.out _; (with_reducible repeat (first | refine blk_drewN ?_ _ | refine blk_drew ?_ | refine blk_alloc ?_ _)); refine blk_far ?_ NB247_261.out _; (with_reducible repeat (first | refine blk_drewN ?_ _ | refine blk_drew ?_ | refine blk_alloc ?_ _)); exact BK247.out))⟩; have n5_ : Aside0 (w23.heap[gb260]? = some (.cells #[.slice Ao13 t248.length co13, .slice Ao16 t251.length co16, .slice Ao17 t254.length co17, .slice Ao18 t257.length co18] 34 (0, 0))) := ⟨(by rw [hw]; exact (by (with_reducible repeat (first | refine blk_drewN ?_ _ | refine blk_drew ?_ | refine blk_alloc ?_ _)); refine blk_far ?_ NB260_261.out _; (with_reducible repeat (first | refine blk_drewN ?_ _ | refine blk_drew ?_ | refine blk_alloc ?_ _)); refine blk_far ?_ NB260_261.out _; (with_reducible repeat (first | refine blk_drewN ?_ _ | refine blk_drew ?_ | refine blk_alloc ?_ _)); refine blk_far ?_ NB260_261.out _; (with_reducible repeat (first | refine blk_drewN ?_ _ | refine blk_drew ?_ | refine blk_alloc ?_ _)); refine blk_far ?_ NB260_261.out _; (with_reducible repeat (first | refine blk_drewN ?_ _ | refine blk_drew ?_ | refine blk_alloc ?_ _)); exact BK260.out))⟩; have n6_ : Aside0 (w23.heap[gb261]? = some (.cells #[.slice Ao13 t248.length co13, .slice Ao16 t251.length co16, .slice Ao17 t254.length co17, .slice Ao18 t257.length co18] 34 (0, 0))) := ⟨(by rw [hw]; exact (by (with_reducible repeat (first | refine blk_drewN ?_ _ | refine blk_drew ?_ | refine blk_alloc ?_ _)); refine blk_put (cs := #[.slice Ao13 t248.length co13, .slice Ao16 t251.length co16, .slice Ao17 t254.length co17, .slice none 0 0]) ?_ 3 _ rfl; (with_reducible repeat (first | refine blk_drewN ?_ _ | refine blk_drew ?_ | refine blk_alloc ?_ _)); refine blk_put (cs := #[.slice Ao13 t248.length co13, .slice Ao16 t251.length co16, .slice none 0 0, .slice none 0 0]) ?_ 2 _ rfl; (with_reducible repeat (first | refine blk_drewN ?_ _ | refine blk_drew ?_ | refine blk_alloc ?_ _)); refine blk_put (cs := #[.slice Ao13 t248.length co13, .slice none 0 0, .slice none 0 0, .slice none 0 0]) ?_ 1 _ rfl; (with_reducible repeat (first | refine blk_drewN ?_ _ | refine blk_drew ?_ | refine blk_alloc ?_ _)); refine blk_put (cs := #[.slice none 0 0, .slice none 0 0, .slice none 0 0, .slice none 0 0]) ?_ 0 _ rfl; (with_reducible repeat (first | refine blk_drewN ?_ _ | refine blk_drew ?_ | refine blk_alloc ?_ _)); exact BK261.out))⟩; have n7_ : Aside0 (Below w.heap.size w w23) := ⟨(by rw [hw]; exact (by repeat (first | (with_reducible first | exact HB.out | apply below_alloc | apply pw_below_drewN | apply below_drew1 | refine below_set ?_ GE247.out | refine below_set ?_ GE260.out | refine below_set ?_ GE261.out) | exact HB.out)))⟩; clear hw; clear HO250; clear HO253; clear HO256; clear HO259; clear BK247; clear BK260; clear BK261; clear HB; have HO250 := n0_; have HO253 := n1_; have HO256 := n2_; have HO259 := n3_; have BK247 := n4_; have BK260 := n5_; have BK261 := n6_; have HB := n7_; clear n0_ n1_ n2_ n3_ n4_ n5_ n6_ n7_; have hcz24_0 : w23.cell? ⟨gb260, 0, none⟩ = some (.slice Ao13 t248.length co13) := (blk_cell BK260.out 0).trans rfl; have hcz24_1 : w23.cell? ⟨gb260, 1, none⟩ = some (.slice Ao16 t251.length co16) := (blk_cell BK260.out 1).trans rfl; have hcz24_2 : w23.cell? ⟨gb260, 2, none⟩ = some (.slice Ao17 t254.length co17) := (blk_cell BK260.out 2).trans rfl; have hcz24_3 : w23.cell? ⟨gb260, 3, none⟩ = some (.slice Ao18 t257.length co18) := (blk_cell BK260.out 3).trans rfl; have hfz24_0 := blk_frozen BK260.out 0; have hfz24_1 := blk_frozen BK260.out 1; have hfz24_2 := blk_frozen BK260.out 2; have hfz24_3 := blk_frozen BK260.out 3) | ((with_reducible refine gate_dst (N := 24) rfl ?_); refine Kd.N_lit (Kd.slice 72 k72) _ 32 ?hg (N' := 24) ?hd (xs := ([t257] : List (List (S72)))) (inner := [.slice Ao18 t257.length co18]) (ok := (fun k_ => some k_ ≠ (.slice Ao16 t251.length co16 : Value).ownBlock ∧ some k_ ≠ (.slice Ao17 t254.length co17 : Value).ownBlock ∧ k_ ≠ gb247 ∧ k_ ≠ gb260 ∧ k_ ≠ gb261)) (okp := (fun k_ => some k_ ≠ (.slice Ao16 t251.length co16 : Value).ownBlock ∧ some k_ ≠ (.slice Ao17 t254.length co17 : Value).ownBlock ∧ k_ ≠ gb247 ∧ k_ ≠ gb260 ∧ k_ ≠ gb261)) ?hr ?hp (fun _ hk => hk) ((show ∀ k_, w23.heap.size ≤ k_ → (fun k_ => some k_ ≠ (.slice Ao16 t251.length co16 : Value).ownBlock ∧ some k_ ≠ (.slice Ao17 t254.length co17 : Value).ownBlock ∧ k_ ≠ gb247 ∧ k_ ≠ gb260 ∧ k_ ≠ gb261) k_ from fun k_ hk => ⟨Kd.fresh' (Kd.N_lt (by (with_reducible repeat (first | apply Kd.N_alloc | apply Kd.N_drewN | apply Kd.N_drew)); exact HO253.out)) k_ hk, Kd.fresh' (Kd.N_lt (by (with_reducible repeat (first | apply Kd.N_alloc | apply Kd.N_drewN | apply Kd.N_drew)); exact HO256.out)) k_ hk, Kd.freshB (g := gb247) (o := .cells #[.int .i64 a0_0, .int .i64 a0_1, .int .i64 a0_2, .int .i64 a0_3, .int .i64 a0_4, .int .i64 a0_5, .slice A0_6 l0_6.length c0_6] 25 (0, 0)) (by (with_reducible repeat (first | refine blk_drewN ?_ _ | refine blk_drew ?_ | refine blk_alloc ?_ _)); exact BK247.out) k_ hk, Kd.freshB (g := gb260) (o := .cells #[.slice Ao13 t248.length co13, .slice Ao16 t251.length co16, .slice Ao17 t254.length co17, .slice Ao18 t257.length co18] 34 (0, 0)) (by (with_reducible repeat (first | refine blk_drewN ?_ _ | refine blk_drew ?_ | refine blk_alloc ?_ _)); exact BK260.out) k_ hk, Kd.freshB (g := gb261) (o := .cells #[.slice Ao13 t248.length co13, .slice Ao16 t251.length co16, .slice Ao17 t254.length co17, .slice Ao18 t257.length co18] 34 (0, 0)) (by (with_reducible repeat (first | refine blk_drewN ?_ _ | refine blk_drew ?_ | refine blk_alloc ?_ _)); exact BK261.out) k_ hk⟩) _ (Nat.le_refl _)) (Below.refl _ _) (Nat.le_refl _) (by simp) ?_; (case hd => rfl); (case hg => rfl); (case hr => first | (go_simp; done) | (go_simp; rfl)); (case hp => exact (Reps.one (show Kd.FK (Kd.slice 72 k72) _ _ t257 [.slice Ao18 t257.length co18] from (Kd.FK_slice_mk (Kd.V_reads' (Kd.V_mono (ok' := (fun k_ => some k_ ≠ (.slice Ao16 t251.length co16 : Value).ownBlock ∧ some k_ ≠ (.slice Ao17 t254.length co17 : Value).ownBlock ∧ k_ ≠ gb247 ∧ k_ ≠ gb260 ∧ k_ ≠ gb261)) (HO259.out) (fun k_ hk => ⟨hk.1, ⟨hk.2.1, ⟨hk.2.2.1, ⟨hk.2.2.2.1, hk.2.2.2.2⟩⟩⟩⟩))).2.1 (Kd.V_F (Kd.V_mono (ok' := (fun k_ => some k_ ≠ (.slice Ao16 t251.length co16 : Value).ownBlock ∧ some k_ ≠ (.slice Ao17 t254.length co17 : Value).ownBlock ∧ k_ ≠ gb247 ∧ k_ ≠ gb260 ∧ k_ ≠ gb261)) (HO259.out) (fun k_ hk => ⟨hk.1, ⟨hk.2.1, ⟨hk.2.2.1, ⟨hk.2.2.2.1, hk.2.2.2.2⟩⟩⟩⟩))))) (Reps.none _ _))); intro v263 w25 ho26 hb hg_ hnew_; clear hg_ hnew_; (first | rw [← Ny262.out] at ho26 | (simp only [Int.reduceToNat] at ho26; rw [← Ny262.out] at ho26)); have n0_ := Aside0.mk (Kd.V_elder' (by (with_reducible repeat (first | apply Kd.V_alloc | apply Kd.V_drewN | apply Kd.V_drew)); exact HO250.out) (by first | exact Kd.N_base ho26 | exact Kd.S_base ho26 | exact Kd.R_base ho26) hb); have n1_ := Aside0.mk (Kd.N_elder' (by (with_reducible repeat (first | apply Kd.N_alloc | apply Kd.N_drewN | apply Kd.N_drew)); exact HO253.out) (by first | exact Kd.N_base ho26 | exact Kd.S_base ho26 | exact Kd.R_base ho26) hb); have n2_ := Aside0.mk (Kd.N_elder' (by (with_reducible repeat (first | apply Kd.N_alloc | apply Kd.N_drewN | apply Kd.N_drew)); exact HO256.out) (by first | exact Kd.N_base ho26 | exact Kd.S_base ho26 | exact Kd.R_base ho26) hb); have n3_ := Aside0.mk (Kd.V_elder' (by (with_reducible repeat (first | apply Kd.V_alloc | apply Kd.V_drewN | apply Kd.V_drew)); exact HO259.out) (by first | exact Kd.N_base ho26 | exact Kd.S_base ho26 | exact Kd.R_base ho26) hb); have n4_ := Aside0.mk (Kd.N_lower ho26 (below_size (by repeat (first | (with_reducible first | exact HB.out | apply below_alloc | apply pw_below_drewN | apply below_drew1 | refine below_set ?_ GE247.out | refine below_set ?_ GE260.out | refine below_set ?_ GE261.out) | exact HB.out)))); have n5_ := Aside0.mk (blk_below (g := gb247) (o := .cells #[.int .i64 a0_0, .int .i64 a0_1, .int .i64 a0_2, .int .i64 a0_3, .int .i64 a0_4, .int .i64 a0_5, .slice A0_6 l0_6.length c0_6] 25 (0, 0)) (by (with_reducible repeat (first | refine blk_drewN ?_ _ | refine blk_drew ?_ | refine blk_alloc ?_ _)); exact BK247.out) hb); have n6_ := Aside0.mk (blk_below (g := gb260) (o := .cells #[.slice Ao13 t248.length co13, .slice Ao16 t251.length co16, .slice Ao17 t254.length co17, .slice Ao18 t257.length co18] 34 (0, 0)) (by (with_reducible repeat (first | refine blk_drewN ?_ _ | refine blk_drew ?_ | refine blk_alloc ?_ _)); exact BK260.out) hb); have n7_ := Aside0.mk (blk_below (g := gb261) (o := .cells #[.slice Ao13 t248.length co13, .slice Ao16 t251.length co16, .slice Ao17 t254.length co17, .slice Ao18 t257.length co18] 34 (0, 0)) (by (with_reducible repeat (first | refine blk_drewN ?_ _ | refine blk_drew ?_ | refine blk_alloc ?_ _)); exact BK261.out) hb); have n8_ := Aside0.mk (below_step (by repeat (first | (with_reducible first | exact HB.out | apply below_alloc | apply pw_below_drewN | apply below_drew1 | refine below_set ?_ GE247.out | refine below_set ?_ GE260.out | refine below_set ?_ GE261.out) | exact HB.out)) hb); clear HO250; clear HO253; clear HO256; clear HO259; clear BK247; clear BK260; clear BK261; clear HB; have HO250 := n0_; have HO253 := n1_; have HO256 := n2_; have HO259 := n3_; have HO264 := n4_; have BK247 := n5_; have BK260 := n6_; have BK261 := n7_; have HB := n8_; clear n0_ n1_ n2_ n3_ n4_ n5_ n6_ n7_ n8_; clear hb ho26; obtain ⟨Ao27, co27, eo27⟩ := Kd.N_slice HO264.out; subst eo27) | ((with_reducible refine gate_callee (f := 10) rfl ?_); refine goesL_ (some 25) rfl rfl Tryd.func10 (by kernel_rfl) rfl #[.int .i64 10, .slice Ao27 y262.length co27] rfl (by (try simp only [List.map_toArray, List.map_cons, List.map_nil]); first | done | rfl | (simp only [List.length_drop, List.length_take]; rfl)) ?_; (with_reducible refine (foretellkeep_joined.calls k 10 _ _ y262 t265 _ ?side1 ?side2 A4.out).mono ?_); (case side1 => repeat (first | exact (Kd.N_reads' HO264.out).2.2 | (with_reducible refine Kd.C_alloc ?_ _) | (with_reducible refine Kd.C_drewN ?_ _) | (with_reducible refine Kd.C_drew ?_))); (case side2 => exact (Kd.N_reads' HO264.out).2.1); rintro e w28 ⟨v266, rfl, ho0, hb⟩; refine ⟨_, rfl, ?_⟩; have n0_ := Aside0.mk (Kd.V_below (by (with_reducible repeat (first | apply Kd.V_alloc | apply Kd.V_drewN | apply Kd.V_drew)); exact HO250.out) hb); have n1_ := Aside0.mk (Kd.N_below (by (with_reducible repeat (first | apply Kd.N_alloc | apply Kd.N_drewN | apply Kd.N_drew)); exact HO253.out) hb); have n2_ := Aside0.mk (Kd.N_below (by (with_reducible repeat (first | apply Kd.N_alloc | apply Kd.N_drewN | apply Kd.N_drew)); exact HO256.out) hb); have n3_ := Aside0.mk (Kd.V_below (by (with_reducible repeat (first | apply Kd.V_alloc | apply Kd.V_drewN | apply Kd.V_drew)); exact HO259.out) hb); have n4_ := Aside0.mk (Kd.N_below (by (with_reducible repeat (first | apply Kd.N_alloc | apply Kd.N_drewN | apply Kd.N_drew)); exact HO264.out) hb); have n5_ := Aside0.mk (Kd.V_lower (Kd.V_mono (ok' := fun k_ => k_ ≠ gb247 ∧ k_ ≠ gb260 ∧ k_ ≠ gb261) (Kd.R_V (Kd.R_bound ho0)) (fun k_ hk_ => ⟨(Kd.freshB (g := gb247) (o := .cells #[.int .i64 a0_0, .int .i64 a0_1, .int .i64 a0_2, .int .i64 a0_3, .int .i64 a0_4, .int .i64 a0_5, .slice A0_6 l0_6.length c0_6] 25 (0, 0)) (by (with_reducible repeat (first | refine blk_drewN ?_ _ | refine blk_drew ?_ | refine blk_alloc ?_ _)); exact BK247.out) k_ hk_.2.1), (Kd.freshB (g := gb260) (o := .cells #[.slice Ao13 t248.length co13, .slice Ao16 t251.length co16, .slice Ao17 t254.length co17, .slice Ao18 t257.length co18] 34 (0, 0)) (by (with_reducible repeat (first | refine blk_drewN ?_ _ | refine blk_drew ?_ | refine blk_alloc ?_ _)); exact BK260.out) k_ hk_.2.1), (Kd.freshB (g := gb261) (o := .cells #[.slice Ao13 t248.length co13, .slice Ao16 t251.length co16, .slice Ao17 t254.length co17, .slice Ao18 t257.length co18] 34 (0, 0)) (by (with_reducible repeat (first | refine blk_drewN ?_ _ | refine blk_drew ?_ | refine blk_alloc ?_ _)); exact BK261.out) k_ hk_.2.1)⟩)) (below_size (by repeat (first | (with_reducible first | exact HB.out | apply below_alloc | apply pw_below_drewN | apply below_drew1 | refine below_set ?_ GE247.out | refine below_set ?_ GE260.out | refine below_set ?_ GE261.out) | exact HB.out)))); have n6_ := Aside0.mk (blk_below (g := gb247) (o := .cells #[.int .i64 a0_0, .int .i64 a0_1, .int .i64 a0_2, .int .i64 a0_3, .int .i64 a0_4, .int .i64 a0_5, .slice A0_6 l0_6.length c0_6] 25 (0, 0)) (by (with_reducible repeat (first | refine blk_drewN ?_ _ | refine blk_drew ?_ | refine blk_alloc ?_ _)); exact BK247.out) hb); have n7_ := Aside0.mk (blk_below (g := gb260) (o := .cells #[.slice Ao13 t248.length co13, .slice Ao16 t251.length co16, .slice Ao17 t254.length co17, .slice Ao18 t257.length co18] 34 (0, 0)) (by (with_reducible repeat (first | refine blk_drewN ?_ _ | refine blk_drew ?_ | refine blk_alloc ?_ _)); exact BK260.out) hb); have n8_ := Aside0.mk (blk_below (g := gb261) (o := .cells #[.slice Ao13 t248.length co13, .slice Ao16 t251.length co16, .slice Ao17 t254.length co17, .slice Ao18 t257.length co18] 34 (0, 0)) (by (with_reducible repeat (first | refine blk_drewN ?_ _ | refine blk_drew ?_ | refine blk_alloc ?_ _)); exact BK261.out) hb); have n9_ := Aside0.mk (below_step (by repeat (first | (with_reducible first | exact HB.out | apply below_alloc | apply pw_below_drewN | apply below_drew1 | refine below_set ?_ GE247.out | refine below_set ?_ GE260.out | refine below_set ?_ GE261.out) | exact HB.out)) hb); clear HO250; clear HO253; clear HO256; clear HO259; clear HO264; clear BK247; clear BK260; clear BK261; clear HB; have HO250 := n0_; have HO253 := n1_; have HO256 := n2_; have HO259 := n3_; have HO264 := n4_; have HO267 := n5_; have BK247 := n6_; have BK260 := n7_; have BK261 := n8_; have HB := n9_; clear n0_ n1_ n2_ n3_ n4_ n5_ n6_ n7_ n8_ n9_; (try clear hb); (try clear hb2); (try clear hk); (try clear hi); (try clear ho0); obtain ⟨Ao29, co29, eo29⟩ := Kd.V_slice HO267.out; subst eo29; have hcz30_0 : w28.cell? ⟨gb261, 0, none⟩ = some (.slice Ao13 t248.length co13) := (blk_cell BK261.out 0).trans rfl; have hcz30_1 : w28.cell? ⟨gb261, 1, none⟩ = some (.slice Ao16 t251.length co16) := (blk_cell BK261.out 1).trans rfl; have hcz30_2 : w28.cell? ⟨gb261, 2, none⟩ = some (.slice Ao17 t254.length co17) := (blk_cell BK261.out 2).trans rfl; have hcz30_3 : w28.cell? ⟨gb261, 3, none⟩ = some (.slice Ao18 t257.length co18) := (blk_cell BK261.out 3).trans rfl; have hfz30_0 := blk_frozen BK261.out 0; have hfz30_1 := blk_frozen BK261.out 1; have hfz30_2 := blk_frozen BK261.out 2; have hfz30_3 := blk_frozen BK261.out 3; have hcz31_0 : w28.cell? ⟨gb260, 0, none⟩ = some (.slice Ao13 t248.length co13) := (blk_cell BK260.out 0).trans rfl; have hcz31_1 : w28.cell? ⟨gb260, 1, none⟩ = some (.slice Ao16 t251.length co16) := (blk_cell BK260.out 1).trans rfl; have hcz31_2 : w28.cell? ⟨gb260, 2, none⟩ = some (.slice Ao17 t254.length co17) := (blk_cell BK260.out 2).trans rfl; have hcz31_3 : w28.cell? ⟨gb260, 3, none⟩ = some (.slice Ao18 t257.length co18) := (blk_cell BK260.out 3).trans rfl; have hfz31_0 := blk_frozen BK260.out 0; have hfz31_1 := blk_frozen BK260.out 1; have hfz31_2 := blk_frozen BK260.out 2; have hfz31_3 := blk_frozen BK260.out 3) | ((with_reducible refine gate_callee (f := 11) rfl ?_); refine goesL_ (some 29) rfl rfl Tryd.func11 (by kernel_rfl) rfl #[.agg #[.slice Ao13 t248.length co13, .slice Ao16 t251.length co16, .slice Ao17 t254.length co17, .slice Ao18 t257.length co18]] rfl (by (try simp only [List.map_toArray, List.map_cons, List.map_nil]); first | done | rfl | (simp only [List.length_drop, List.length_take]; rfl)) ?_; (with_reducible refine (product_Begin.calls k _ _ t248 _ _ t251 _ _ t254 _ _ t257 t268 t271 _ ?side1 ?side2 ?side3 ?side4 ?side5 ?side6 ?side7 ?side8 ?side9 A5.out).mono ?_); (case side1 => refine (Kd.V_reads' (e := 77) (base := w.heap.size) (ok := fun k_ => ((some k_ ≠ (.slice Ao16 t251.length co16 : Value).ownBlock ∧ (some k_ ≠ (.slice Ao17 t254.length co17 : Value).ownBlock ∧ (k_ ≠ gb247 ∧ (k_ ≠ gb260 ∧ k_ ≠ gb261)))) ∧ some k_ ≠ (.slice Ao27 y262.length co27 : Value).ownBlock)) (n := t248.length) (c := co13) ?_).2.2; exact (by (with_reducible repeat (first | apply Kd.V_alloc | apply Kd.V_drewN | apply Kd.V_drew)); exact (Kd.V_mono (Kd.V_far (p := ⟨gb261, 3, none⟩) (Kd.V_mono HO250.out (fun k_ hk => (⟨hk, hk.1.2.2.2.2⟩ : _ ∧ k_ ≠ gb261))) (fun _ hk => hk.2) (.slice Ao29 t265.length co29)) (fun _ h_ => h_.1)))); (case side2 => exact (Kd.V_reads' HO250.out).2.1); (case side3 => refine (Kd.N_reads' (e := 118) (base := w.heap.size) (ok := fun k_ => ((some k_ ≠ (.slice Ao17 t254.length co17 : Value).ownBlock ∧ (k_ ≠ gb247 ∧ (k_ ≠ gb260 ∧ k_ ≠ gb261))) ∧ some k_ ≠ (.slice Ao27 y262.length co27 : Value).ownBlock)) (n := t251.length) (c := co16) ?_).2.2; exact (by (with_reducible repeat (first | apply Kd.N_alloc | apply Kd.N_drewN | apply Kd.N_drew)); exact (Kd.N_mono (Kd.N_far (p := ⟨gb261, 3, none⟩) (Kd.N_mono HO253.out (fun k_ hk => (⟨hk, hk.1.2.2.2⟩ : _ ∧ k_ ≠ gb261))) (fun _ hk => hk.2) (.slice Ao29 t265.length co29)) (fun _ h_ => h_.1)))); (case side4 => exact (Kd.N_reads' HO253.out).2.1); (case side5 => refine (Kd.N_reads' (e := 32) (base := w.heap.size) (ok := fun k_ => ((some k_ ≠ (.slice Ao16 t251.length co16 : Value).ownBlock ∧ (k_ ≠ gb247 ∧ (k_ ≠ gb260 ∧ k_ ≠ gb261))) ∧ some k_ ≠ (.slice Ao27 y262.length co27 : Value).ownBlock)) (n := t254.length) (c := co17) ?_).2.2; exact (by (with_reducible repeat (first | apply Kd.N_alloc | apply Kd.N_drewN | apply Kd.N_drew)); exact (Kd.N_mono (Kd.N_far (p := ⟨gb261, 3, none⟩) (Kd.N_mono HO256.out (fun k_ hk => (⟨hk, hk.1.2.2.2⟩ : _ ∧ k_ ≠ gb261))) (fun _ hk => hk.2) (.slice Ao29 t265.length co29)) (fun _ h_ => h_.1)))); (case side6 => exact (Kd.N_reads' HO256.out).2.1); (case side7 => refine (Kd.V_reads' (e := 72) (base := w.heap.size) (ok := fun k_ => ((some k_ ≠ (.slice Ao16 t251.length co16 : Value).ownBlock ∧ (some k_ ≠ (.slice Ao17 t254.length co17 : Value).ownBlock ∧ (k_ ≠ gb247 ∧ (k_ ≠ gb260 ∧ k_ ≠ gb261)))) ∧ some k_ ≠ (.slice Ao27 y262.length co27 : Value).ownBlock)) (n := t257.length) (c := co18) ?_).2.2; exact (by (with_reducible repeat (first | apply Kd.V_alloc | apply Kd.V_drewN | apply Kd.V_drew)); exact (Kd.V_mono (Kd.V_far (p := ⟨gb261, 3, none⟩) (Kd.V_mono HO259.out (fun k_ hk => (⟨hk, hk.1.2.2.2.2⟩ : _ ∧ k_ ≠ gb261))) (fun _ hk => hk.2) (.slice Ao29 t265.length co29)) (fun _ h_ => h_.1)))); (case side8 => exact (Kd.V_reads' HO259.out).2.1); (case side9 => first | exact hG_ | exact Glob.drewN hG_ _ | exact Glob.below hG_ (by repeat (first | (with_reducible first | exact HB.out | apply below_alloc | apply pw_below_drewN | apply below_drew1 | refine below_set ?_ GE247.out | refine below_set ?_ GE260.out | refine below_set ?_ GE261.out) | exact HB.out))); rintro e w32 ⟨v269, rfl, ho0, hb⟩; refine ⟨_, rfl, ?_⟩; have n0_ := Aside0.mk (Kd.V_below (by (with_reducible repeat (first | apply Kd.V_alloc | apply Kd.V_drewN | apply Kd.V_drew)); exact (Kd.V_mono (Kd.V_far (p := ⟨gb261, 3, none⟩) (Kd.V_mono HO250.out (fun k_ hk => (⟨hk, hk.1.2.2.2.2⟩ : _ ∧ k_ ≠ gb261))) (fun _ hk => hk.2) (.slice Ao29 t265.length co29)) (fun _ h_ => h_.1))) hb); have n1_ := Aside0.mk (Kd.N_below (by (with_reducible repeat (first | apply Kd.N_alloc | apply Kd.N_drewN | apply Kd.N_drew)); exact (Kd.N_mono (Kd.N_far (p := ⟨gb261, 3, none⟩) (Kd.N_mono HO253.out (fun k_ hk => (⟨hk, hk.1.2.2.2⟩ : _ ∧ k_ ≠ gb261))) (fun _ hk => hk.2) (.slice Ao29 t265.length co29)) (fun _ h_ => h_.1))) hb); have n2_ := Aside0.mk (Kd.N_below (by (with_reducible repeat (first | apply Kd.N_alloc | apply Kd.N_drewN | apply Kd.N_drew)); exact (Kd.N_mono (Kd.N_far (p := ⟨gb261, 3, none⟩) (Kd.N_mono HO256.out (fun k_ hk => (⟨hk, hk.1.2.2.2⟩ : _ ∧ k_ ≠ gb261))) (fun _ hk => hk.2) (.slice Ao29 t265.length co29)) (fun _ h_ => h_.1))) hb); have n3_ := Aside0.mk (Kd.V_below (by (with_reducible repeat (first | apply Kd.V_alloc | apply Kd.V_drewN | apply Kd.V_drew)); exact (Kd.V_mono (Kd.V_far (p := ⟨gb261, 3, none⟩) (Kd.V_mono HO259.out (fun k_ hk => (⟨hk, hk.1.2.2.2.2⟩ : _ ∧ k_ ≠ gb261))) (fun _ hk => hk.2) (.slice Ao29 t265.length co29)) (fun _ h_ => h_.1))) hb); have n4_ := Aside0.mk (Kd.N_below (by (with_reducible repeat (first | apply Kd.N_alloc | apply Kd.N_drewN | apply Kd.N_drew)); exact (Kd.N_mono (Kd.N_far (p := ⟨gb261, 3, none⟩) (Kd.N_mono HO264.out (fun k_ hk => (⟨hk, hk.2.2.2.2⟩ : _ ∧ k_ ≠ gb261))) (fun _ hk => hk.2) (.slice Ao29 t265.length co29)) (fun _ h_ => h_.1))) hb); have n5_ := Aside0.mk (Kd.V_below (by (with_reducible repeat (first | apply Kd.V_alloc | apply Kd.V_drewN | apply Kd.V_drew)); exact (Kd.V_mono (Kd.V_far (p := ⟨gb261, 3, none⟩) (Kd.V_mono HO267.out (fun k_ hk => (⟨hk, hk.2.2⟩ : _ ∧ k_ ≠ gb261))) (fun _ hk => hk.2) (.slice Ao29 t265.length co29)) (fun _ h_ => h_.1))) hb); have n6_ := Aside0.mk (Kd.V_lower (Kd.V_mono (ok' := fun k_ => k_ ≠ gb247 ∧ k_ ≠ gb260 ∧ k_ ≠ gb261) (Kd.R_V (Kd.R_bound ho0)) (fun k_ hk_ => ⟨(Kd.freshB (g := gb247) (o := .cells #[.int .i64 a0_0, .int .i64 a0_1, .int .i64 a0_2, .int .i64 a0_3, .int .i64 a0_4, .int .i64 a0_5, .slice A0_6 l0_6.length c0_6] 25 (0, 0)) (by (with_reducible repeat (first | refine blk_drewN ?_ _ | refine blk_drew ?_ | refine blk_alloc ?_ _)); refine blk_far ?_ NB247_261.out _; (with_reducible repeat (first | refine blk_drewN ?_ _ | refine blk_drew ?_ | refine blk_alloc ?_ _)); exact BK247.out) k_ hk_.2.1), (Kd.freshB (g := gb260) (o := .cells #[.slice Ao13 t248.length co13, .slice Ao16 t251.length co16, .slice Ao17 t254.length co17, .slice Ao18 t257.length co18] 34 (0, 0)) (by (with_reducible repeat (first | refine blk_drewN ?_ _ | refine blk_drew ?_ | refine blk_alloc ?_ _)); refine blk_far ?_ NB260_261.out _; (with_reducible repeat (first | refine blk_drewN ?_ _ | refine blk_drew ?_ | refine blk_alloc ?_ _)); exact BK260.out) k_ hk_.2.1), (Kd.freshB (g := gb261) (o := .cells #[.slice Ao13 t248.length co13, .slice Ao16 t251.length co16, .slice Ao17 t254.length co17, .slice Ao29 t265.length co29] 34 (0, 0)) (by (with_reducible repeat (first | refine blk_drewN ?_ _ | refine blk_drew ?_ | refine blk_alloc ?_ _)); refine blk_put (cs := #[.slice Ao13 t248.length co13, .slice Ao16 t251.length co16, .slice Ao17 t254.length co17, .slice Ao18 t257.length co18]) ?_ 3 _ rfl; (with_reducible repeat (first | refine blk_drewN ?_ _ | refine blk_drew ?_ | refine blk_alloc ?_ _)); exact BK261.out) k_ hk_.2.1)⟩)) (below_size (by repeat (first | (with_reducible first | exact HB.out | apply below_alloc | apply pw_below_drewN | apply below_drew1 | refine below_set ?_ GE247.out | refine below_set ?_ GE260.out | refine below_set ?_ GE261.out) | exact HB.out)))); have n7_ := Aside0.mk (blk_below (g := gb247) (o := .cells #[.int .i64 a0_0, .int .i64 a0_1, .int .i64 a0_2, .int .i64 a0_3, .int .i64 a0_4, .int .i64 a0_5, .slice A0_6 l0_6.length c0_6] 25 (0, 0)) (by (with_reducible repeat (first | refine blk_drewN ?_ _ | refine blk_drew ?_ | refine blk_alloc ?_ _)); refine blk_far ?_ NB247_261.out _; (with_reducible repeat (first | refine blk_drewN ?_ _ | refine blk_drew ?_ | refine blk_alloc ?_ _)); exact BK247.out) hb); have n8_ := Aside0.mk (blk_below (g := gb260) (o := .cells #[.slice Ao13 t248.length co13, .slice Ao16 t251.length co16, .slice Ao17 t254.length co17, .slice Ao18 t257.length co18] 34 (0, 0)) (by (with_reducible repeat (first | refine blk_drewN ?_ _ | refine blk_drew ?_ | refine blk_alloc ?_ _)); refine blk_far ?_ NB260_261.out _; (with_reducible repeat (first | refine blk_drewN ?_ _ | refine blk_drew ?_ | refine blk_alloc ?_ _)); exact BK260.out) hb); have n9_ := Aside0.mk (blk_below (g := gb261) (o := .cells #[.slice Ao13 t248.length co13, .slice Ao16 t251.length co16, .slice Ao17 t254.length co17, .slice Ao29 t265.length co29] 34 (0, 0)) (by (with_reducible repeat (first | refine blk_drewN ?_ _ | refine blk_drew ?_ | refine blk_alloc ?_ _)); refine blk_put (cs := #[.slice Ao13 t248.length co13, .slice Ao16 t251.length co16, .slice Ao17 t254.length co17, .slice Ao18 t257.length co18]) ?_ 3 _ rfl; (with_reducible repeat (first | refine blk_drewN ?_ _ | refine blk_drew ?_ | refine blk_alloc ?_ _)); exact BK261.out) hb); have n10_ := Aside0.mk (below_step (by repeat (first | (with_reducible first | exact HB.out | apply below_alloc | apply pw_below_drewN | apply below_drew1 | refine below_set ?_ GE247.out | refine below_set ?_ GE260.out | refine below_set ?_ GE261.out) | exact HB.out)) hb); clear HO250; clear HO253; clear HO256; clear HO259; clear HO264; clear HO267; clear BK247; clear BK260; clear BK261; clear HB; have HO250 := n0_; have HO253 := n1_; have HO256 := n2_; have HO259 := n3_; have HO264 := n4_; have HO267 := n5_; have HO270 := n6_; have BK247 := n7_; have BK260 := n8_; have BK261 := n9_; have HB := n10_; clear n0_ n1_ n2_ n3_ n4_ n5_ n6_ n7_ n8_ n9_ n10_; (try clear hb); (try clear hb2); (try clear hk); (try clear hi); (try clear ho0); have hcz33_0 : w32.cell? ⟨gb261, 0, none⟩ = some (.slice Ao13 t248.length co13) := (blk_cell BK261.out 0).trans rfl; have hcz33_1 : w32.cell? ⟨gb261, 1, none⟩ = some (.slice Ao16 t251.length co16) := (blk_cell BK261.out 1).trans rfl; have hcz33_2 : w32.cell? ⟨gb261, 2, none⟩ = some (.slice Ao17 t254.length co17) := (blk_cell BK261.out 2).trans rfl; have hcz33_3 : w32.cell? ⟨gb261, 3, none⟩ = some (.slice Ao29 t265.length co29) := (blk_cell BK261.out 3).trans rfl; have hfz33_0 := blk_frozen BK261.out 0; have hfz33_1 := blk_frozen BK261.out 1; have hfz33_2 := blk_frozen BK261.out 2; have hfz33_3 := blk_frozen BK261.out 3) | ((with_reducible refine gate_callee (f := 11) rfl ?_); refine goesL_ (some 34) rfl rfl Tryd.func11 (by kernel_rfl) rfl #[.agg #[.slice Ao13 t248.length co13, .slice Ao16 t251.length co16, .slice Ao17 t254.length co17, .slice Ao29 t265.length co29]] rfl (by (try simp only [List.map_toArray, List.map_cons, List.map_nil]); first | done | rfl | (simp only [List.length_drop, List.length_take]; rfl)) ?_; (with_reducible refine (product_Begin.calls k _ _ t248 _ _ t251 _ _ t254 _ _ t265 t272 t275 _ ?side1 ?side2 ?side3 ?side4 ?side5 ?side6 ?side7 ?side8 ?side9 A6.out).mono ?_); (case side1 => repeat (first | exact (Kd.V_reads' HO250.out).2.2 | (with_reducible refine Kd.C_alloc ?_ _) | (with_reducible refine Kd.C_drewN ?_ _) | (with_reducible refine Kd.C_drew ?_))); (case side2 => exact (Kd.V_reads' HO250.out).2.1); (case side3 => repeat (first | exact (Kd.N_reads' HO253.out).2.2 | (with_reducible refine Kd.C_alloc ?_ _) | (with_reducible refine Kd.C_drewN ?_ _) | (with_reducible refine Kd.C_drew ?_))); (case side4 => exact (Kd.N_reads' HO253.out).2.1); (case side5 => repeat (first | exact (Kd.N_reads' HO256.out).2.2 | (with_reducible refine Kd.C_alloc ?_ _) | (with_reducible refine Kd.C_drewN ?_ _) | (with_reducible refine Kd.C_drew ?_))); (case side6 => exact (Kd.N_reads' HO256.out).2.1); (case side7 => repeat (first | exact (Kd.V_reads' HO267.out).2.2 | (with_reducible refine Kd.C_alloc ?_ _) | (with_reducible refine Kd.C_drewN ?_ _) | (with_reducible refine Kd.C_drew ?_))); (case side8 => exact (Kd.V_reads' HO267.out).2.1); (case side9 => first | exact hG_ | exact Glob.drewN hG_ _ | exact Glob.below hG_ (by repeat (first | (with_reducible first | exact HB.out | apply below_alloc | apply pw_below_drewN | apply below_drew1 | refine below_set ?_ GE247.out | refine below_set ?_ GE260.out | refine below_set ?_ GE261.out) | exact HB.out))); rintro e w34 ⟨v273, rfl, ho0, hb⟩; refine ⟨_, rfl, ?_⟩; have n0_ := Aside0.mk (Kd.V_below (by (with_reducible repeat (first | apply Kd.V_alloc | apply Kd.V_drewN | apply Kd.V_drew)); exact HO250.out) hb); have n1_ := Aside0.mk (Kd.N_below (by (with_reducible repeat (first | apply Kd.N_alloc | apply Kd.N_drewN | apply Kd.N_drew)); exact HO253.out) hb); have n2_ := Aside0.mk (Kd.N_below (by (with_reducible repeat (first | apply Kd.N_alloc | apply Kd.N_drewN | apply Kd.N_drew)); exact HO256.out) hb); have n3_ := Aside0.mk (Kd.V_below (by (with_reducible repeat (first | apply Kd.V_alloc | apply Kd.V_drewN | apply Kd.V_drew)); exact HO259.out) hb); have n4_ := Aside0.mk (Kd.N_below (by (with_reducible repeat (first | apply Kd.N_alloc | apply Kd.N_drewN | apply Kd.N_drew)); exact HO264.out) hb); have n5_ := Aside0.mk (Kd.V_below (by (with_reducible repeat (first | apply Kd.V_alloc | apply Kd.V_drewN | apply Kd.V_drew)); exact HO267.out) hb); have n6_ := Aside0.mk (Kd.V_below (by (with_reducible repeat (first | apply Kd.V_alloc | apply Kd.V_drewN | apply Kd.V_drew)); exact HO270.out) hb); have n7_ := Aside0.mk (Kd.V_lower (Kd.V_mono (ok' := fun k_ => k_ ≠ gb247 ∧ k_ ≠ gb260 ∧ k_ ≠ gb261) (Kd.R_V (Kd.R_bound ho0)) (fun k_ hk_ => ⟨(Kd.freshB (g := gb247) (o := .cells #[.int .i64 a0_0, .int .i64 a0_1, .int .i64 a0_2, .int .i64 a0_3, .int .i64 a0_4, .int .i64 a0_5, .slice A0_6 l0_6.length c0_6] 25 (0, 0)) (by (with_reducible repeat (first | refine blk_drewN ?_ _ | refine blk_drew ?_ | refine blk_alloc ?_ _)); exact BK247.out) k_ hk_.2.1), (Kd.freshB (g := gb260) (o := .cells #[.slice Ao13 t248.length co13, .slice Ao16 t251.length co16, .slice Ao17 t254.length co17, .slice Ao18 t257.length co18] 34 (0, 0)) (by (with_reducible repeat (first | refine blk_drewN ?_ _ | refine blk_drew ?_ | refine blk_alloc ?_ _)); exact BK260.out) k_ hk_.2.1), (Kd.freshB (g := gb261) (o := .cells #[.slice Ao13 t248.length co13, .slice Ao16 t251.length co16, .slice Ao17 t254.length co17, .slice Ao29 t265.length co29] 34 (0, 0)) (by (with_reducible repeat (first | refine blk_drewN ?_ _ | refine blk_drew ?_ | refine blk_alloc ?_ _)); exact BK261.out) k_ hk_.2.1)⟩)) (below_size (by repeat (first | (with_reducible first | exact HB.out | apply below_alloc | apply pw_below_drewN | apply below_drew1 | refine below_set ?_ GE247.out | refine below_set ?_ GE260.out | refine below_set ?_ GE261.out) | exact HB.out)))); have n8_ := Aside0.mk (blk_below (g := gb247) (o := .cells #[.int .i64 a0_0, .int .i64 a0_1, .int .i64 a0_2, .int .i64 a0_3, .int .i64 a0_4, .int .i64 a0_5, .slice A0_6 l0_6.length c0_6] 25 (0, 0)) (by (with_reducible repeat (first | refine blk_drewN ?_ _ | refine blk_drew ?_ | refine blk_alloc ?_ _)); exact BK247.out) hb); have n9_ := Aside0.mk (blk_below (g := gb260) (o := .cells #[.slice Ao13 t248.length co13, .slice Ao16 t251.length co16, .slice Ao17 t254.length co17, .slice Ao18 t257.length co18] 34 (0, 0)) (by (with_reducible repeat (first | refine blk_drewN ?_ _ | refine blk_drew ?_ | refine blk_alloc ?_ _)); exact BK260.out) hb); have n10_ := Aside0.mk (blk_below (g := gb261) (o := .cells #[.slice Ao13 t248.length co13, .slice Ao16 t251.length co16, .slice Ao17 t254.length co17, .slice Ao29 t265.length co29] 34 (0, 0)) (by (with_reducible repeat (first | refine blk_drewN ?_ _ | refine blk_drew ?_ | refine blk_alloc ?_ _)); exact BK261.out) hb); have n11_ := Aside0.mk (below_step (by repeat (first | (with_reducible first | exact HB.out | apply below_alloc | apply pw_below_drewN | apply below_drew1 | refine below_set ?_ GE247.out | refine below_set ?_ GE260.out | refine below_set ?_ GE261.out) | exact HB.out)) hb); clear HO250; clear HO253; clear HO256; clear HO259; clear HO264; clear HO267; clear HO270; clear BK247; clear BK260; clear BK261; clear HB; have HO250 := n0_; have HO253 := n1_; have HO256 := n2_; have HO259 := n3_; have HO264 := n4_; have HO267 := n5_; have HO270 := n6_; have HO274 := n7_; have BK247 := n8_; have BK260 := n9_; have BK261 := n10_; have HB := n11_; clear n0_ n1_ n2_ n3_ n4_ n5_ n6_ n7_ n8_ n9_ n10_ n11_; (try clear hb); (try clear hb2); (try clear hk); (try clear hi); (try clear ho0); have hcz35_0 : w34.cell? ⟨gb260, 0, none⟩ = some (.slice Ao13 t248.length co13) := (blk_cell BK260.out 0).trans rfl; have hcz35_1 : w34.cell? ⟨gb260, 1, none⟩ = some (.slice Ao16 t251.length co16) := (blk_cell BK260.out 1).trans rfl; have hcz35_2 : w34.cell? ⟨gb260, 2, none⟩ = some (.slice Ao17 t254.length co17) := (blk_cell BK260.out 2).trans rfl; have hcz35_3 : w34.cell? ⟨gb260, 3, none⟩ = some (.slice Ao18 t257.length co18) := (blk_cell BK260.out 3).trans rfl; have hfz35_0 := blk_frozen BK260.out 0; have hfz35_1 := blk_frozen BK260.out 1; have hfz35_2 := blk_frozen BK260.out 2; have hfz35_3 := blk_frozen BK260.out 3) | ((with_reducible refine gate_callee (f := 12) rfl ?_); refine goesL_ (some 40) rfl rfl Tryd.func12 (by kernel_rfl) rfl #[.agg #[.slice Ao13 t248.length co13, .slice Ao16 t251.length co16]] rfl (by (try simp only [List.map_toArray, List.map_cons, List.map_nil]); first | done | rfl | (simp only [List.length_drop, List.length_take]; rfl)) ?_; (with_reducible refine (model_First.calls k _ _ t248 _ _ t251 t276 t277 _ ?side1 ?side2 ?side3 ?side4 ?side5 A7.out).mono ?_); (case side1 => repeat (first | exact (Kd.V_reads' HO250.out).2.2 | (with_reducible refine Kd.C_alloc ?_ _) | (with_reducible refine Kd.C_drewN ?_ _) | (with_reducible refine Kd.C_drew ?_))); (case side2 => exact (Kd.V_reads' HO250.out).2.1); (case side3 => repeat (first | exact (Kd.N_reads' HO253.out).2.2 | (with_reducible refine Kd.C_alloc ?_ _) | (with_reducible refine Kd.C_drewN ?_ _) | (with_reducible refine Kd.C_drew ?_))); (case side4 => exact (Kd.N_reads' HO253.out).2.1); (case side5 => first | exact hG_ | exact Glob.drewN hG_ _ | exact Glob.below hG_ (by repeat (first | (with_reducible first | exact HB.out | apply below_alloc | apply pw_below_drewN | apply below_drew1 | refine below_set ?_ GE247.out | refine below_set ?_ GE260.out | refine below_set ?_ GE261.out) | exact HB.out))); rintro e w36 ⟨rfl, hb⟩; refine ⟨_, rfl, ?_⟩; have n0_ := Aside0.mk (Kd.V_below (by (with_reducible repeat (first | apply Kd.V_alloc | apply Kd.V_drewN | apply Kd.V_drew)); exact HO250.out) hb); have n1_ := Aside0.mk (Kd.N_below (by (with_reducible repeat (first | apply Kd.N_alloc | apply Kd.N_drewN | apply Kd.N_drew)); exact HO253.out) hb); have n2_ := Aside0.mk (Kd.N_below (by (with_reducible repeat (first | apply Kd.N_alloc | apply Kd.N_drewN | apply Kd.N_drew)); exact HO256.out) hb); have n3_ := Aside0.mk (Kd.V_below (by (with_reducible repeat (first | apply Kd.V_alloc | apply Kd.V_drewN | apply Kd.V_drew)); exact HO259.out) hb); have n4_ := Aside0.mk (Kd.N_below (by (with_reducible repeat (first | apply Kd.N_alloc | apply Kd.N_drewN | apply Kd.N_drew)); exact HO264.out) hb); have n5_ := Aside0.mk (Kd.V_below (by (with_reducible repeat (first | apply Kd.V_alloc | apply Kd.V_drewN | apply Kd.V_drew)); exact HO267.out) hb); have n6_ := Aside0.mk (Kd.V_below (by (with_reducible repeat (first | apply Kd.V_alloc | apply Kd.V_drewN | apply Kd.V_drew)); exact HO270.out) hb); have n7_ := Aside0.mk (Kd.V_below (by (with_reducible repeat (first | apply Kd.V_alloc | apply Kd.V_drewN | apply Kd.V_drew)); exact HO274.out) hb); have n8_ := Aside0.mk (blk_below (g := gb247) (o := .cells #[.int .i64 a0_0, .int .i64 a0_1, .int .i64 a0_2, .int .i64 a0_3, .int .i64 a0_4, .int .i64 a0_5, .slice A0_6 l0_6.length c0_6] 25 (0, 0)) (by (with_reducible repeat (first | refine blk_drewN ?_ _ | refine blk_drew ?_ | refine blk_alloc ?_ _)); exact BK247.out) hb); have n9_ := Aside0.mk (blk_below (g := gb260) (o := .cells #[.slice Ao13 t248.length co13, .slice Ao16 t251.length co16, .slice Ao17 t254.length co17, .slice Ao18 t257.length co18] 34 (0, 0)) (by (with_reducible repeat (first | refine blk_drewN ?_ _ | refine blk_drew ?_ | refine blk_alloc ?_ _)); exact BK260.out) hb); have n10_ := Aside0.mk (blk_below (g := gb261) (o := .cells #[.slice Ao13 t248.length co13, .slice Ao16 t251.length co16, .slice Ao17 t254.length co17, .slice Ao29 t265.length co29] 34 (0, 0)) (by (with_reducible repeat (first | refine blk_drewN ?_ _ | refine blk_drew ?_ | refine blk_alloc ?_ _)); exact BK261.out) hb); have n11_ := Aside0.mk (below_step (by repeat (first | (with_reducible first | exact HB.out | apply below_alloc | apply pw_below_drewN | apply below_drew1 | refine below_set ?_ GE247.out | refine below_set ?_ GE260.out | refine below_set ?_ GE261.out) | exact HB.out)) hb); clear HO250; clear HO253; clear HO256; clear HO259; clear HO264; clear HO267; clear HO270; clear HO274; clear BK247; clear BK260; clear BK261; clear HB; have HO250 := n0_; have HO253 := n1_; have HO256 := n2_; have HO259 := n3_; have HO264 := n4_; have HO267 := n5_; have HO270 := n6_; have HO274 := n7_; have BK247 := n8_; have BK260 := n9_; have BK261 := n10_; have HB := n11_; clear n0_ n1_ n2_ n3_ n4_ n5_ n6_ n7_ n8_ n9_ n10_ n11_; (try clear hb); (try clear hb2); (try clear hk); (try clear hi)) | ((with_reducible refine gate_dst (N := 43) rfl ?_); refine Kd.R_make (Kd.int .i64) _ 3 rfl (N := 43) rfl 43 _ _ rfl 8 rfl rfl Tryd.underlying43 (.int .i64 0) 8 info3 rfl (by decide) (by omega) 0 (ok := fun _ => True) (okp := fun _ => True) rfl (fun _ hk => hk) trivial (by omega) (by omega) (Below.refl _ _) (Nat.le_refl _) ?_; intro v279 w37 ho38 hb hg_ hnew_; clear hg_ hnew_; (first | rw [← Ny278.out] at ho38 | (simp only [Int.reduceToNat] at ho38; rw [← Ny278.out] at ho38)); have n0_ := Aside0.mk (Kd.V_elder' (by (with_reducible repeat (first | apply Kd.V_alloc | apply Kd.V_drewN | apply Kd.V_drew)); exact HO250.out) (Kd.R_base ho38) hb); have n1_ := Aside0.mk (Kd.N_elder' (by (with_reducible repeat (first | apply Kd.N_alloc | apply Kd.N_drewN | apply Kd.N_drew)); exact HO253.out) (Kd.R_base ho38) hb); have n2_ := Aside0.mk (Kd.N_elder' (by (with_reducible repeat (first | apply Kd.N_alloc | apply Kd.N_drewN | apply Kd.N_drew)); exact HO256.out) (Kd.R_base ho38) hb); have n3_ := Aside0.mk (Kd.V_elder' (by (with_reducible repeat (first | apply Kd.V_alloc | apply Kd.V_drewN | apply Kd.V_drew)); exact HO259.out) (Kd.R_base ho38) hb); have n4_ := Aside0.mk (Kd.N_elder' (by (with_reducible repeat (first | apply Kd.N_alloc | apply Kd.N_drewN | apply Kd.N_drew)); exact HO264.out) (Kd.R_base ho38) hb); have n5_ := Aside0.mk (Kd.V_elder' (by (with_reducible repeat (first | apply Kd.V_alloc | apply Kd.V_drewN | apply Kd.V_drew)); exact HO267.out) (Kd.R_base ho38) hb); have n6_ := Aside0.mk (Kd.V_elder' (by (with_reducible repeat (first | apply Kd.V_alloc | apply Kd.V_drewN | apply Kd.V_drew)); exact HO270.out) (Kd.R_base ho38) hb); have n7_ := Aside0.mk (Kd.V_elder' (by (with_reducible repeat (first | apply Kd.V_alloc | apply Kd.V_drewN | apply Kd.V_drew)); exact HO274.out) (Kd.R_base ho38) hb); have n8_ := Aside0.mk (Kd.R_lower ho38 (below_size (by repeat (first | (with_reducible first | exact HB.out | apply below_alloc | apply pw_below_drewN | apply below_drew1 | refine below_set ?_ GE247.out | refine below_set ?_ GE260.out | refine below_set ?_ GE261.out) | exact HB.out)))); have n9_ := Aside0.mk (blk_below (g := gb247) (o := .cells #[.int .i64 a0_0, .int .i64 a0_1, .int .i64 a0_2, .int .i64 a0_3, .int .i64 a0_4, .int .i64 a0_5, .slice A0_6 l0_6.length c0_6] 25 (0, 0)) (by (with_reducible repeat (first | refine blk_drewN ?_ _ | refine blk_drew ?_ | refine blk_alloc ?_ _)); exact BK247.out) hb); have n10_ := Aside0.mk (blk_below (g := gb260) (o := .cells #[.slice Ao13 t248.length co13, .slice Ao16 t251.length co16, .slice Ao17 t254.length co17, .slice Ao18 t257.length co18] 34 (0, 0)) (by (with_reducible repeat (first | refine blk_drewN ?_ _ | refine blk_drew ?_ | refine blk_alloc ?_ _)); exact BK260.out) hb); have n11_ := Aside0.mk (blk_below (g := gb261) (o := .cells #[.slice Ao13 t248.length co13, .slice Ao16 t251.length co16, .slice Ao17 t254.length co17, .slice Ao29 t265.length co29] 34 (0, 0)) (by (with_reducible repeat (first | refine blk_drewN ?_ _ | refine blk_drew ?_ | refine blk_alloc ?_ _)); exact BK261.out) hb); have n12_ := Aside0.mk (below_step (by repeat (first | (with_reducible first | exact HB.out | apply below_alloc | apply pw_below_drewN | apply below_drew1 | refine below_set ?_ GE247.out | refine below_set ?_ GE260.out | refine below_set ?_ GE261.out) | exact HB.out)) hb); clear HO250; clear HO253; clear HO256; clear HO259; clear HO264; clear HO267; clear HO270; clear HO274; clear BK247; clear BK260; clear BK261; clear HB; have HO250 := n0_; have HO253 := n1_; have HO256 := n2_; have HO259 := n3_; have HO264 := n4_; have HO267 := n5_; have HO270 := n6_; have HO274 := n7_; have HO280 := n8_; have BK247 := n9_; have BK260 := n10_; have BK261 := n11_; have HB := n12_; clear n0_ n1_ n2_ n3_ n4_ n5_ n6_ n7_ n8_ n9_ n10_ n11_ n12_; clear hb ho38))
  go_loopg [14] k (fun kq v14 w' => ∃ (x13_1 : List Int) (x14_1 : Int), v14 = .int .i64 x14_1 ∧ Aside0 (foretellkeep_BeginApart.l0 kq t268 t271 t272 t275 t276 t277 x13_1 x14_1 = some r) ∧ Aside0 (kq ≤ k) ∧ Aside0 (Kd.V k45 45 w' w.heap.size (fun k_ => some k_ ≠ (v279 : Value).ownBlock ∧ k_ ≠ gb247 ∧ k_ ≠ gb260 ∧ k_ ≠ gb261) v269 t268) ∧ Aside0 (Kd.V k45 45 w' w.heap.size (fun k_ => some k_ ≠ (v279 : Value).ownBlock ∧ k_ ≠ gb247 ∧ k_ ≠ gb260 ∧ k_ ≠ gb261) v273 t272) ∧ Aside0 (Kd.R (Kd.int .i64) 3 w' w.heap.size (fun _ => True) v279 x13_1) ∧ Aside0 (Kd.V k77 77 w' w.heap.size (fun k_ => some k_ ≠ (v279 : Value).ownBlock ∧ some k_ ≠ ((.slice Ao16 t251.length co16) : Value).ownBlock ∧ some k_ ≠ ((.slice Ao17 t254.length co17) : Value).ownBlock ∧ some k_ ≠ ((.slice Ao16 t251.length co16) : Value).ownBlock ∧ some k_ ≠ ((.slice Ao17 t254.length co17) : Value).ownBlock ∧ k_ ≠ gb247 ∧ k_ ≠ gb260 ∧ k_ ≠ gb261) (.slice Ao13 t248.length co13) t248) ∧ Aside0 (Kd.N k118 118 w' w.heap.size (fun k_ => some k_ ≠ (v279 : Value).ownBlock ∧ some k_ ≠ ((.slice Ao17 t254.length co17) : Value).ownBlock ∧ some k_ ≠ ((.slice Ao17 t254.length co17) : Value).ownBlock ∧ k_ ≠ gb247 ∧ k_ ≠ gb260 ∧ k_ ≠ gb261) (.slice Ao16 t251.length co16) t251) ∧ Aside0 (Kd.N (Kd.slice 72 k72) 32 w' w.heap.size (fun k_ => some k_ ≠ (v279 : Value).ownBlock ∧ some k_ ≠ ((.slice Ao16 t251.length co16) : Value).ownBlock ∧ some k_ ≠ ((.slice Ao16 t251.length co16) : Value).ownBlock ∧ k_ ≠ gb247 ∧ k_ ≠ gb260 ∧ k_ ≠ gb261) (.slice Ao17 t254.length co17) t254) ∧ Aside0 (Kd.V k72 72 w' w.heap.size (fun k_ => some k_ ≠ (v279 : Value).ownBlock ∧ some k_ ≠ ((.slice Ao16 t251.length co16) : Value).ownBlock ∧ some k_ ≠ ((.slice Ao17 t254.length co17) : Value).ownBlock ∧ some k_ ≠ ((.slice Ao16 t251.length co16) : Value).ownBlock ∧ some k_ ≠ ((.slice Ao17 t254.length co17) : Value).ownBlock ∧ k_ ≠ gb247 ∧ k_ ≠ gb260 ∧ k_ ≠ gb261) (.slice Ao18 t257.length co18) t257) ∧ Aside0 (Kd.V k77 77 w' w.heap.size (fun k_ => some k_ ≠ (v279 : Value).ownBlock ∧ some k_ ≠ ((.slice Ao16 t251.length co16) : Value).ownBlock ∧ some k_ ≠ ((.slice Ao17 t254.length co17) : Value).ownBlock ∧ some k_ ≠ ((.slice Ao16 t251.length co16) : Value).ownBlock ∧ some k_ ≠ ((.slice Ao17 t254.length co17) : Value).ownBlock ∧ k_ ≠ gb247 ∧ k_ ≠ gb260 ∧ k_ ≠ gb261) (.slice Ao13 t248.length co13) t248) ∧ Aside0 (Kd.N k118 118 w' w.heap.size (fun k_ => some k_ ≠ (v279 : Value).ownBlock ∧ some k_ ≠ ((.slice Ao17 t254.length co17) : Value).ownBlock ∧ some k_ ≠ ((.slice Ao17 t254.length co17) : Value).ownBlock ∧ k_ ≠ gb247 ∧ k_ ≠ gb260 ∧ k_ ≠ gb261) (.slice Ao16 t251.length co16) t251) ∧ Aside0 (Kd.N (Kd.slice 72 k72) 32 w' w.heap.size (fun k_ => some k_ ≠ (v279 : Value).ownBlock ∧ some k_ ≠ ((.slice Ao16 t251.length co16) : Value).ownBlock ∧ some k_ ≠ ((.slice Ao16 t251.length co16) : Value).ownBlock ∧ k_ ≠ gb247 ∧ k_ ≠ gb260 ∧ k_ ≠ gb261) (.slice Ao17 t254.length co17) t254) ∧ Aside0 (Kd.V k72 72 w' w.heap.size (fun k_ => some k_ ≠ (v279 : Value).ownBlock ∧ k_ ≠ gb247 ∧ k_ ≠ gb260 ∧ k_ ≠ gb261) (.slice Ao29 t265.length co29) t265) ∧ Aside0 (w'.heap[gb247]? = some (.cells #[.int .i64 a0_0, .int .i64 a0_1, .int .i64 a0_2, .int .i64 a0_3, .int .i64 a0_4, .int .i64 a0_5, (.slice A0_6 l0_6.length c0_6)] 25 (0, 0))) ∧ Aside0 (w'.heap[gb260]? = some (.cells #[(.slice Ao13 t248.length co13), (.slice Ao16 t251.length co16), (.slice Ao17 t254.length co17), (.slice Ao18 t257.length co18)] 34 (0, 0))) ∧ Aside0 (w'.heap[gb261]? = some (.cells #[(.slice Ao13 t248.length co13), (.slice Ao16 t251.length co16), (.slice Ao17 t254.length co17), (.slice Ao29 t265.length co29)] 34 (0, 0))) ∧ Aside0 (Below w.heap.size w w'))
  case atStart => exact ⟨(y278), (0), (by first | rfl | (simp; done) | (simp [*]; done)), H', ⟨Nat.le_refl _⟩, ⟨by (with_reducible repeat (first | apply Kd.V_alloc | apply Kd.V_drewN | apply Kd.V_drew)); exact Kd.V_mono HO270.out (fun _ hk => ⟨hk.2, ⟨hk.1.1, ⟨hk.1.2.1, hk.1.2.2⟩⟩⟩)⟩, ⟨by (with_reducible repeat (first | apply Kd.V_alloc | apply Kd.V_drewN | apply Kd.V_drew)); exact Kd.V_mono HO274.out (fun _ hk => ⟨hk.2, ⟨hk.1.1, ⟨hk.1.2.1, hk.1.2.2⟩⟩⟩)⟩, ⟨by (with_reducible repeat (first | apply Kd.R_alloc | apply Kd.R_drewN | apply Kd.R_drew)); exact HO280.out⟩, ⟨by (with_reducible repeat (first | apply Kd.V_alloc | apply Kd.V_drewN | apply Kd.V_drew)); exact Kd.V_mono HO250.out (fun _ hk => ⟨hk.2, ⟨hk.1.1.1, ⟨hk.1.1.2.1, ⟨hk.1.1.1, ⟨hk.1.1.2.1, ⟨hk.1.1.2.2.1, ⟨hk.1.1.2.2.2.1, hk.1.1.2.2.2.2⟩⟩⟩⟩⟩⟩⟩)⟩, ⟨by (with_reducible repeat (first | apply Kd.N_alloc | apply Kd.N_drewN | apply Kd.N_drew)); exact Kd.N_mono HO253.out (fun _ hk => ⟨hk.2, ⟨hk.1.1.1, ⟨hk.1.1.1, ⟨hk.1.1.2.1, ⟨hk.1.1.2.2.1, hk.1.1.2.2.2⟩⟩⟩⟩⟩)⟩, ⟨by (with_reducible repeat (first | apply Kd.N_alloc | apply Kd.N_drewN | apply Kd.N_drew)); exact Kd.N_mono HO256.out (fun _ hk => ⟨hk.2, ⟨hk.1.1.1, ⟨hk.1.1.1, ⟨hk.1.1.2.1, ⟨hk.1.1.2.2.1, hk.1.1.2.2.2⟩⟩⟩⟩⟩)⟩, ⟨by (with_reducible repeat (first | apply Kd.V_alloc | apply Kd.V_drewN | apply Kd.V_drew)); exact Kd.V_mono HO259.out (fun _ hk => ⟨hk.2, ⟨hk.1.1.1, ⟨hk.1.1.2.1, ⟨hk.1.1.1, ⟨hk.1.1.2.1, ⟨hk.1.1.2.2.1, ⟨hk.1.1.2.2.2.1, hk.1.1.2.2.2.2⟩⟩⟩⟩⟩⟩⟩)⟩, ⟨by (with_reducible repeat (first | apply Kd.V_alloc | apply Kd.V_drewN | apply Kd.V_drew)); exact Kd.V_mono HO250.out (fun _ hk => ⟨hk.2, ⟨hk.1.1.1, ⟨hk.1.1.2.1, ⟨hk.1.1.1, ⟨hk.1.1.2.1, ⟨hk.1.1.2.2.1, ⟨hk.1.1.2.2.2.1, hk.1.1.2.2.2.2⟩⟩⟩⟩⟩⟩⟩)⟩, ⟨by (with_reducible repeat (first | apply Kd.N_alloc | apply Kd.N_drewN | apply Kd.N_drew)); exact Kd.N_mono HO253.out (fun _ hk => ⟨hk.2, ⟨hk.1.1.1, ⟨hk.1.1.1, ⟨hk.1.1.2.1, ⟨hk.1.1.2.2.1, hk.1.1.2.2.2⟩⟩⟩⟩⟩)⟩, ⟨by (with_reducible repeat (first | apply Kd.N_alloc | apply Kd.N_drewN | apply Kd.N_drew)); exact Kd.N_mono HO256.out (fun _ hk => ⟨hk.2, ⟨hk.1.1.1, ⟨hk.1.1.1, ⟨hk.1.1.2.1, ⟨hk.1.1.2.2.1, hk.1.1.2.2.2⟩⟩⟩⟩⟩)⟩, ⟨by (with_reducible repeat (first | apply Kd.V_alloc | apply Kd.V_drewN | apply Kd.V_drew)); exact Kd.V_mono HO267.out (fun _ hk => ⟨hk.2, ⟨hk.1.1, ⟨hk.1.2.1, hk.1.2.2⟩⟩⟩)⟩, ⟨by (with_reducible repeat (first | refine blk_drewN ?_ _ | refine blk_drew ?_ | refine blk_alloc ?_ _)); exact BK247.out⟩, ⟨by (with_reducible repeat (first | refine blk_drewN ?_ _ | refine blk_drew ?_ | refine blk_alloc ?_ _)); exact BK260.out⟩, ⟨by (with_reducible repeat (first | refine blk_drewN ?_ _ | refine blk_drew ?_ | refine blk_alloc ?_ _)); exact BK261.out⟩, ⟨bQ3 GE247.out GE260.out GE261.out⟩⟩
  case round =>
   clear H'
   try clear c1
   try clear c2
   try clear p2
   try clear c3
   try clear c8
   try clear c8b0
   try clear c8b1
   try clear c9
   try clear c10
   try clear c11
   try clear c12
   try clear c14
   try clear c20
   try clear c21
   try clear hcz10_0
   try clear hcz10_1
   try clear hcz10_2
   try clear hcz10_3
   try clear hcz10_4
   try clear hcz10_5
   try clear hcz10_6
   try clear hcz15_0
   try clear hcz15_1
   try clear hcz15_2
   try clear hcz15_3
   try clear hcz22_0
   try clear hcz22_1
   try clear hcz22_2
   try clear hcz22_3
   try clear hcz24_0
   try clear hcz24_1
   try clear hcz24_2
   try clear hcz24_3
   try clear hcz30_0
   try clear hcz30_1
   try clear hcz30_2
   try clear hcz30_3
   try clear hcz31_0
   try clear hcz31_1
   try clear hcz31_2
   try clear hcz31_3
   try clear hcz33_0
   try clear hcz33_1
   try clear hcz33_2
   try clear hcz33_3
   try clear hcz35_0
   try clear hcz35_1
   try clear hcz35_2
   try clear hcz35_3
   try clear hfz10_0
   try clear hfz10_1
   try clear hfz10_2
   try clear hfz10_3
   try clear hfz10_4
   try clear hfz10_5
   try clear hfz10_6
   try clear hfz15_0
   try clear hfz15_1
   try clear hfz15_2
   try clear hfz15_3
   try clear hfz22_0
   try clear hfz22_1
   try clear hfz22_2
   try clear hfz22_3
   try clear hfz24_0
   try clear hfz24_1
   try clear hfz24_2
   try clear hfz24_3
   try clear hfz30_0
   try clear hfz30_1
   try clear hfz30_2
   try clear hfz30_3
   try clear hfz31_0
   try clear hfz31_1
   try clear hfz31_2
   try clear hfz31_3
   try clear hfz33_0
   try clear hfz33_1
   try clear hfz33_2
   try clear hfz33_3
   try clear hfz35_0
   try clear hfz35_1
   try clear hfz35_2
   try clear hfz35_3
   obtain ⟨x13_1, x14_1, rfl, HA, HK1, HO_7, HO_9, HO_13, HO_261000, HO_261001, HO_261002, HO_261003, HO_262000, HO_262001, HO_262002, HO_262003, BK247, BK260, BK261, HB⟩ := hrel
   cases gk with
   | zero => exact absurd HA.out (by simp [foretellkeep_BeginApart.l0])
   | succ k1 =>
    have H := HA.out
    clear HA
    simp only [foretellkeep_BeginApart.l0] at H
    by_cases c39 : x14_1 < (t268.length : Int)
    ·
     rw [if_pos c39] at H
     have c39b0 : decide (x14_1 < (t268.length : Int)) = true := decide_eq_true c39
     clear c39
     by_cases c40 : 0 ≤ x14_1
     ·
      rw [if_pos c40] at H
      have c40b0 : decide (0 ≤ x14_1) = true := decide_eq_true c40
      clear c40
      by_cases c41 : ((rd_T45 t268 x14_1).f0) = t276
      ·
       rw [if_pos c41] at H
       have c41b0 : (((rd_T45 t268 x14_1).f0) == t276) = true := beq_iff_eq.mpr c41
       have c41b1 : (((rd_T45 t268 x14_1).f0) != t276) = false := bne_eq_false_iff_eq.mpr c41
       clear c41
       by_cases c42 : ((rd_T45 t268 x14_1).f1) < 0
       ·
        rw [if_pos c42] at H
        exact absurd ((Option.some.inj H).trans hr_.out) (by decide)
       ·
        rw [if_neg c42] at H
        have c42b0 : decide (((rd_T45 t268 x14_1).f1) < 0) = false := decide_eq_false c42
        clear c42
        by_cases c43 : ((rd_T45 t268 x14_1).f1) > 7
        ·
         rw [if_pos c43] at H
         exact absurd ((Option.some.inj H).trans hr_.out) (by decide)
        ·
         rw [if_neg c43] at H
         have c43b0 : decide (7 < ((rd_T45 t268 x14_1).f1)) = false := decide_eq_false c43
         clear c43
         by_cases c44 : 0 ≤ ((rd_T45 t268 x14_1).f1)
         ·
          rw [if_pos c44] at H
          have c44b0 : decide (0 ≤ ((rd_T45 t268 x14_1).f1)) = true := decide_eq_true c44
          clear c44
          by_cases c45 : ((rd_T45 t268 x14_1).f1) < (x13_1.length : Int)
          ·
           rw [if_pos c45] at H
           have c45b0 : decide (((rd_T45 t268 x14_1).f1) < (x13_1.length : Int)) = true := decide_eq_true c45
           clear c45
           obtain ⟨y286, hy286⟩ : ∃ y_ : List Int, y_ = (x13_1.set (((rd_T45 t268 x14_1).f1) : Int).toNat (wrap64 ((rd x13_1 ((rd_T45 t268 x14_1).f1)) + 1))) := ⟨_, rfl⟩
           replace H : (foretellkeep_BeginApart.l0 k1 t268 t271 t272 t275 t276 t277 y286 (wrap64 (x14_1 + 1))) = some r := by first | (rw [hy286]; with_reducible exact H) | (have H2_ := (Option.bind_some _ _).symm.trans H; rw [hy286]; with_reducible exact H2_) | (have H2_ := (Option.bind_some _ _).symm.trans H; with_reducible exact H2_) | with_reducible exact H | (rw [hy286]; exact H) | exact H
           have Ny286 := Aside0.mk hy286
           clear hy286
           have H' := Aside0.mk H
           clear H
           obtain ⟨Ao47, co47, eo47⟩ := Kd.V_slice HO_7.out
           subst eo47
           have p281 : 0 ≤ (x14_1 : Int) := of_decide_eq_true (by first | (with_reducible assumption) | assumption)
           have q281 : x14_1 < (t268.length : Int) := of_decide_eq_true (by first | (with_reducible assumption) | assumption)
           obtain ⟨ad281, e281, hx281_0, hx281_1⟩ := at_T45 (Kd.V_reads' HO_7.out).2.2 x14_1 p281 q281
           cases e281
           replace p281 := eq_true p281
           replace q281 := eq_true q281
           have p282 : 0 ≤ (x14_1 : Int) := of_decide_eq_true (by first | (with_reducible assumption) | assumption)
           have q282 : x14_1 < (t268.length : Int) := of_decide_eq_true (by first | (with_reducible assumption) | assumption)
           obtain ⟨ad282, e282, hx282_0, hx282_1⟩ := at_T45 (Kd.V_reads' HO_7.out).2.2 x14_1 p282 q282
           obtain rfl : ad281 = ad282 := (by injection e282)
           replace p282 := eq_true p282
           replace q282 := eq_true q282
           have p283 : 0 ≤ (x14_1 : Int) := of_decide_eq_true (by first | (with_reducible assumption) | assumption)
           have q283 : x14_1 < (t268.length : Int) := of_decide_eq_true (by first | (with_reducible assumption) | assumption)
           obtain ⟨ad283, e283, hx283_0, hx283_1⟩ := at_T45 (Kd.V_reads' HO_7.out).2.2 x14_1 p283 q283
           obtain rfl : ad281 = ad283 := (by injection e283)
           replace p283 := eq_true p283
           replace q283 := eq_true q283
           have p284 : 0 ≤ (x14_1 : Int) := of_decide_eq_true (by first | (with_reducible assumption) | assumption)
           have q284 : x14_1 < (t268.length : Int) := of_decide_eq_true (by first | (with_reducible assumption) | assumption)
           obtain ⟨ad284, e284, hx284_0, hx284_1⟩ := at_T45 (Kd.V_reads' HO_7.out).2.2 x14_1 p284 q284
           obtain rfl : ad281 = ad284 := (by injection e284)
           replace p284 := eq_true p284
           replace q284 := eq_true q284
           obtain ⟨Ao48, co48, eo48⟩ := Kd.R_slice HO_13.out
           subst eo48
           have p285 : 0 ≤ (((rd_T45 t268 x14_1).f1) : Int) := of_decide_eq_true (by first | (with_reducible assumption) | assumption)
           have q285 : ((rd_T45 t268 x14_1).f1) < (x13_1.length : Int) := of_decide_eq_true (by first | (with_reducible assumption) | assumption)
           obtain ⟨ad285, e285, hx285_0⟩ := Kd.at_int (Kd.R_reads' HO_13.out).2.2 ((rd_T45 t268 x14_1).f1) p285 q285
           cases e285
           replace p285 := eq_true p285
           replace q285 := eq_true q285
           have p46 : 0 ≤ (((rd_T45 t268 x14_1).f1) : Int) := of_decide_eq_true (by first | (with_reducible assumption) | assumption)
           have q46 : (((rd_T45 t268 x14_1).f1) : Int) < ((x13_1.length : Int) : Int) := of_decide_eq_true (by first | (with_reducible assumption) | assumption)
           obtain ⟨go46, co46, eo46, gb46, gl46, cl46, HG46⟩ := Kd.R_form HO_13.out (by omega)
           (first | cases eo46 | (injection eo46 with ea_ en_ ec_; (first | subst ea_ | (injection ea_ with ea_; subst ea_)); subst ec_; clear en_))
           have GB46 := Aside0.mk gb46
           have GG46 := Aside0.mk HG46
           clear gb46 gl46 HG46
           (first | simp only [add_plain] at hx285_0 | skip)
           obtain ⟨hx46_0, hf46_0⟩ := Kd.R_celln 0 HO_13.out (((rd_T45 t268 x14_1).f1) : Int) p46 q46
           replace p46 := eq_true p46
           replace q46 := eq_true q46
           have HP49 := Kd.R_putg HO_13.out (((rd_T45 t268 x14_1).f1) : Int) (wrap64 ((rd x13_1 ((rd_T45 t268 x14_1).f1)) + 1))
           go_wp2_with (first | ((with_reducible refine gate_store (t := 3) (p := 82) rfl ?_); refine store_event (t := 3) (p := 82) (v := ?vo_w50) (w1 := (wr.setCell ⟨go46, (((rd_T45 t268 x14_1).f1) : Int).toNat, none⟩ (.int .i64 (wrap64 ((rd x13_1 ((rd_T45 t268 x14_1).f1)) + 1))))) ?hg ?ho ?hn ?hr ?_; (case ho => rfl); (case hg => rfl); (case hn => rfl); (case hr => first | (go_simp; done) | (go_simp; rfl)); intro w50 hw; have hg : wr.grownBy w50 (some go46) := (by rw [hw]; exact HP49.2); have hp_ : Kd.R (Kd.int .i64) 3 w50 w.heap.size (fun _ => True) (.slice (some ⟨go46, 0, none⟩) x13_1.length co48) y286 := (by rw [hw, Ny286.out]; exact HP49.1); clear HP49; have n0_ := Aside0.mk (Kd.V_afterv (v := (.slice (some ⟨go46, 0, none⟩) x13_1.length co48)) (v1 := (.slice (some ⟨go46, 0, none⟩) x13_1.length co48)) (ok := (fun k_ => k_ ≠ gb247 ∧ k_ ≠ gb260 ∧ k_ ≠ gb261)) (by (with_reducible repeat (first | apply Kd.V_alloc | apply Kd.V_drewN | apply Kd.V_drew)); exact Kd.V_mono HO_7.out (fun _ hk => ⟨⟨hk.2.1, ⟨hk.2.2.1, hk.2.2.2⟩⟩, hk.1⟩)) hg (.inl rfl)); have n1_ := Aside0.mk (Kd.V_afterv (v := (.slice (some ⟨go46, 0, none⟩) x13_1.length co48)) (v1 := (.slice (some ⟨go46, 0, none⟩) x13_1.length co48)) (ok := (fun k_ => k_ ≠ gb247 ∧ k_ ≠ gb260 ∧ k_ ≠ gb261)) (by (with_reducible repeat (first | apply Kd.V_alloc | apply Kd.V_drewN | apply Kd.V_drew)); exact Kd.V_mono HO_9.out (fun _ hk => ⟨⟨hk.2.1, ⟨hk.2.2.1, hk.2.2.2⟩⟩, hk.1⟩)) hg (.inl rfl)); have n2_ := Aside0.mk (hp_); have n3_ := Aside0.mk (Kd.V_afterv (v := (.slice (some ⟨go46, 0, none⟩) x13_1.length co48)) (v1 := (.slice (some ⟨go46, 0, none⟩) x13_1.length co48)) (ok := (fun k_ => some k_ ≠ (.slice Ao16 t251.length co16 : Value).ownBlock ∧ some k_ ≠ (.slice Ao17 t254.length co17 : Value).ownBlock ∧ some k_ ≠ (.slice Ao16 t251.length co16 : Value).ownBlock ∧ some k_ ≠ (.slice Ao17 t254.length co17 : Value).ownBlock ∧ k_ ≠ gb247 ∧ k_ ≠ gb260 ∧ k_ ≠ gb261)) (by (with_reducible repeat (first | apply Kd.V_alloc | apply Kd.V_drewN | apply Kd.V_drew)); exact Kd.V_mono HO_261000.out (fun _ hk => ⟨⟨hk.2.1, ⟨hk.2.2.1, ⟨hk.2.2.2.1, ⟨hk.2.2.2.2.1, ⟨hk.2.2.2.2.2.1, ⟨hk.2.2.2.2.2.2.1, hk.2.2.2.2.2.2.2⟩⟩⟩⟩⟩⟩, hk.1⟩)) hg (.inl rfl)); have n4_ := Aside0.mk (Kd.N_afterv (v := (.slice (some ⟨go46, 0, none⟩) x13_1.length co48)) (v1 := (.slice (some ⟨go46, 0, none⟩) x13_1.length co48)) (ok := (fun k_ => some k_ ≠ (.slice Ao17 t254.length co17 : Value).ownBlock ∧ some k_ ≠ (.slice Ao17 t254.length co17 : Value).ownBlock ∧ k_ ≠ gb247 ∧ k_ ≠ gb260 ∧ k_ ≠ gb261)) (by (with_reducible repeat (first | apply Kd.N_alloc | apply Kd.N_drewN | apply Kd.N_drew)); exact Kd.N_mono HO_261001.out (fun _ hk => ⟨⟨hk.2.1, ⟨hk.2.2.1, ⟨hk.2.2.2.1, ⟨hk.2.2.2.2.1, hk.2.2.2.2.2⟩⟩⟩⟩, hk.1⟩)) hg (.inl rfl)); have n5_ := Aside0.mk (Kd.N_afterv (v := (.slice (some ⟨go46, 0, none⟩) x13_1.length co48)) (v1 := (.slice (some ⟨go46, 0, none⟩) x13_1.length co48)) (ok := (fun k_ => some k_ ≠ (.slice Ao16 t251.length co16 : Value).ownBlock ∧ some k_ ≠ (.slice Ao16 t251.length co16 : Value).ownBlock ∧ k_ ≠ gb247 ∧ k_ ≠ gb260 ∧ k_ ≠ gb261)) (by (with_reducible repeat (first | apply Kd.N_alloc | apply Kd.N_drewN | apply Kd.N_drew)); exact Kd.N_mono HO_261002.out (fun _ hk => ⟨⟨hk.2.1, ⟨hk.2.2.1, ⟨hk.2.2.2.1, ⟨hk.2.2.2.2.1, hk.2.2.2.2.2⟩⟩⟩⟩, hk.1⟩)) hg (.inl rfl)); have n6_ := Aside0.mk (Kd.V_afterv (v := (.slice (some ⟨go46, 0, none⟩) x13_1.length co48)) (v1 := (.slice (some ⟨go46, 0, none⟩) x13_1.length co48)) (ok := (fun k_ => some k_ ≠ (.slice Ao16 t251.length co16 : Value).ownBlock ∧ some k_ ≠ (.slice Ao17 t254.length co17 : Value).ownBlock ∧ some k_ ≠ (.slice Ao16 t251.length co16 : Value).ownBlock ∧ some k_ ≠ (.slice Ao17 t254.length co17 : Value).ownBlock ∧ k_ ≠ gb247 ∧ k_ ≠ gb260 ∧ k_ ≠ gb261)) (by (with_reducible repeat (first | apply Kd.V_alloc | apply Kd.V_drewN | apply Kd.V_drew)); exact Kd.V_mono HO_261003.out (fun _ hk => ⟨⟨hk.2.1, ⟨hk.2.2.1, ⟨hk.2.2.2.1, ⟨hk.2.2.2.2.1, ⟨hk.2.2.2.2.2.1, ⟨hk.2.2.2.2.2.2.1, hk.2.2.2.2.2.2.2⟩⟩⟩⟩⟩⟩, hk.1⟩)) hg (.inl rfl)); have n7_ := Aside0.mk (Kd.V_afterv (v := (.slice (some ⟨go46, 0, none⟩) x13_1.length co48)) (v1 := (.slice (some ⟨go46, 0, none⟩) x13_1.length co48)) (ok := (fun k_ => some k_ ≠ (.slice Ao16 t251.length co16 : Value).ownBlock ∧ some k_ ≠ (.slice Ao17 t254.length co17 : Value).ownBlock ∧ some k_ ≠ (.slice Ao16 t251.length co16 : Value).ownBlock ∧ some k_ ≠ (.slice Ao17 t254.length co17 : Value).ownBlock ∧ k_ ≠ gb247 ∧ k_ ≠ gb260 ∧ k_ ≠ gb261)) (by (with_reducible repeat (first | apply Kd.V_alloc | apply Kd.V_drewN | apply Kd.V_drew)); exact Kd.V_mono HO_262000.out (fun _ hk => ⟨⟨hk.2.1, ⟨hk.2.2.1, ⟨hk.2.2.2.1, ⟨hk.2.2.2.2.1, ⟨hk.2.2.2.2.2.1, ⟨hk.2.2.2.2.2.2.1, hk.2.2.2.2.2.2.2⟩⟩⟩⟩⟩⟩, hk.1⟩)) hg (.inl rfl)); have n8_ := Aside0.mk (Kd.N_afterv (v := (.slice (some ⟨go46, 0, none⟩) x13_1.length co48)) (v1 := (.slice (some ⟨go46, 0, none⟩) x13_1.length co48)) (ok := (fun k_ => some k_ ≠ (.slice Ao17 t254.length co17 : Value).ownBlock ∧ some k_ ≠ (.slice Ao17 t254.length co17 : Value).ownBlock ∧ k_ ≠ gb247 ∧ k_ ≠ gb260 ∧ k_ ≠ gb261)) (by (with_reducible repeat (first | apply Kd.N_alloc | apply Kd.N_drewN | apply Kd.N_drew)); exact Kd.N_mono HO_262001.out (fun _ hk => ⟨⟨hk.2.1, ⟨hk.2.2.1, ⟨hk.2.2.2.1, ⟨hk.2.2.2.2.1, hk.2.2.2.2.2⟩⟩⟩⟩, hk.1⟩)) hg (.inl rfl)); have n9_ := Aside0.mk (Kd.N_afterv (v := (.slice (some ⟨go46, 0, none⟩) x13_1.length co48)) (v1 := (.slice (some ⟨go46, 0, none⟩) x13_1.length co48)) (ok := (fun k_ => some k_ ≠ (.slice Ao16 t251.length co16 : Value).ownBlock ∧ some k_ ≠ (.slice Ao16 t251.length co16 : Value).ownBlock ∧ k_ ≠ gb247 ∧ k_ ≠ gb260 ∧ k_ ≠ gb261)) (by (with_reducible repeat (first | apply Kd.N_alloc | apply Kd.N_drewN | apply Kd.N_drew)); exact Kd.N_mono HO_262002.out (fun _ hk => ⟨⟨hk.2.1, ⟨hk.2.2.1, ⟨hk.2.2.2.1, ⟨hk.2.2.2.2.1, hk.2.2.2.2.2⟩⟩⟩⟩, hk.1⟩)) hg (.inl rfl)); have n10_ := Aside0.mk (Kd.V_afterv (v := (.slice (some ⟨go46, 0, none⟩) x13_1.length co48)) (v1 := (.slice (some ⟨go46, 0, none⟩) x13_1.length co48)) (ok := (fun k_ => k_ ≠ gb247 ∧ k_ ≠ gb260 ∧ k_ ≠ gb261)) (by (with_reducible repeat (first | apply Kd.V_alloc | apply Kd.V_drewN | apply Kd.V_drew)); exact Kd.V_mono HO_262003.out (fun _ hk => ⟨⟨hk.2.1, ⟨hk.2.2.1, hk.2.2.2⟩⟩, hk.1⟩)) hg (.inl rfl)); have n11_ := Aside0.mk (blk_grown (g := gb247) (o := .cells #[.int .i64 a0_0, .int .i64 a0_1, .int .i64 a0_2, .int .i64 a0_3, .int .i64 a0_4, .int .i64 a0_5, .slice A0_6 l0_6.length c0_6] 25 (0, 0)) (kQ BK247.out) hg (Kd.R_ne HO_13.out BK247.out (by decide))); have n12_ := Aside0.mk (blk_grown (g := gb260) (o := .cells #[.slice Ao13 t248.length co13, .slice Ao16 t251.length co16, .slice Ao17 t254.length co17, .slice Ao18 t257.length co18] 34 (0, 0)) (kQ BK260.out) hg (Kd.R_ne HO_13.out BK260.out (by decide))); have n13_ := Aside0.mk (blk_grown (g := gb261) (o := .cells #[.slice Ao13 t248.length co13, .slice Ao16 t251.length co16, .slice Ao17 t254.length co17, .slice Ao29 t265.length co29] 34 (0, 0)) (kQ BK261.out) hg (Kd.R_ne HO_13.out BK261.out (by decide))); have n14_ := Aside0.mk ((by rw [hw]; exact below_set (HB.out) GB46.out : Below w.heap.size w w50)); clear HO_7; clear HO_9; clear HO_13; clear HO_261000; clear HO_261001; clear HO_261002; clear HO_261003; clear HO_262000; clear HO_262001; clear HO_262002; clear HO_262003; clear BK247; clear BK260; clear BK261; clear HB; have HO_7 := n0_; have HO_9 := n1_; have HO_13 := n2_; have HO_261000 := n3_; have HO_261001 := n4_; have HO_261002 := n5_; have HO_261003 := n6_; have HO_262000 := n7_; have HO_262001 := n8_; have HO_262002 := n9_; have HO_262003 := n10_; have BK247 := n11_; have BK260 := n12_; have BK261 := n13_; have HB := n14_; clear n0_ n1_ n2_ n3_ n4_ n5_ n6_ n7_ n8_ n9_ n10_ n11_ n12_ n13_ n14_; clear hg hw hp_))
           go_roundg k1
           case measure => have := HK1.out; omega
           case rel => exact ⟨(y286), (wrap64 (x14_1 + 1)), (by first | rfl | (simp; done) | (simp [*]; done)), H', ⟨by have := HK1.out; omega⟩, ⟨by (with_reducible repeat (first | apply Kd.V_alloc | apply Kd.V_drewN | apply Kd.V_drew)); exact Kd.V_mono HO_7.out (fun _ hk => ⟨hk.2, ⟨hk.1.1, ⟨hk.1.2.1, hk.1.2.2⟩⟩⟩)⟩, ⟨by (with_reducible repeat (first | apply Kd.V_alloc | apply Kd.V_drewN | apply Kd.V_drew)); exact Kd.V_mono HO_9.out (fun _ hk => ⟨hk.2, ⟨hk.1.1, ⟨hk.1.2.1, hk.1.2.2⟩⟩⟩)⟩, ⟨by (with_reducible repeat (first | apply Kd.R_alloc | apply Kd.R_drewN | apply Kd.R_drew)); exact HO_13.out⟩, ⟨by (with_reducible repeat (first | apply Kd.V_alloc | apply Kd.V_drewN | apply Kd.V_drew)); exact Kd.V_mono HO_261000.out (fun _ hk => ⟨hk.2, ⟨hk.1.1, ⟨hk.1.2.1, ⟨hk.1.2.2.1, ⟨hk.1.2.2.2.1, ⟨hk.1.2.2.2.2.1, ⟨hk.1.2.2.2.2.2.1, hk.1.2.2.2.2.2.2⟩⟩⟩⟩⟩⟩⟩)⟩, ⟨by (with_reducible repeat (first | apply Kd.N_alloc | apply Kd.N_drewN | apply Kd.N_drew)); exact Kd.N_mono HO_261001.out (fun _ hk => ⟨hk.2, ⟨hk.1.1, ⟨hk.1.2.1, ⟨hk.1.2.2.1, ⟨hk.1.2.2.2.1, hk.1.2.2.2.2⟩⟩⟩⟩⟩)⟩, ⟨by (with_reducible repeat (first | apply Kd.N_alloc | apply Kd.N_drewN | apply Kd.N_drew)); exact Kd.N_mono HO_261002.out (fun _ hk => ⟨hk.2, ⟨hk.1.1, ⟨hk.1.2.1, ⟨hk.1.2.2.1, ⟨hk.1.2.2.2.1, hk.1.2.2.2.2⟩⟩⟩⟩⟩)⟩, ⟨by (with_reducible repeat (first | apply Kd.V_alloc | apply Kd.V_drewN | apply Kd.V_drew)); exact Kd.V_mono HO_261003.out (fun _ hk => ⟨hk.2, ⟨hk.1.1, ⟨hk.1.2.1, ⟨hk.1.2.2.1, ⟨hk.1.2.2.2.1, ⟨hk.1.2.2.2.2.1, ⟨hk.1.2.2.2.2.2.1, hk.1.2.2.2.2.2.2⟩⟩⟩⟩⟩⟩⟩)⟩, ⟨by (with_reducible repeat (first | apply Kd.V_alloc | apply Kd.V_drewN | apply Kd.V_drew)); exact Kd.V_mono HO_262000.out (fun _ hk => ⟨hk.2, ⟨hk.1.1, ⟨hk.1.2.1, ⟨hk.1.2.2.1, ⟨hk.1.2.2.2.1, ⟨hk.1.2.2.2.2.1, ⟨hk.1.2.2.2.2.2.1, hk.1.2.2.2.2.2.2⟩⟩⟩⟩⟩⟩⟩)⟩, ⟨by (with_reducible repeat (first | apply Kd.N_alloc | apply Kd.N_drewN | apply Kd.N_drew)); exact Kd.N_mono HO_262001.out (fun _ hk => ⟨hk.2, ⟨hk.1.1, ⟨hk.1.2.1, ⟨hk.1.2.2.1, ⟨hk.1.2.2.2.1, hk.1.2.2.2.2⟩⟩⟩⟩⟩)⟩, ⟨by (with_reducible repeat (first | apply Kd.N_alloc | apply Kd.N_drewN | apply Kd.N_drew)); exact Kd.N_mono HO_262002.out (fun _ hk => ⟨hk.2, ⟨hk.1.1, ⟨hk.1.2.1, ⟨hk.1.2.2.1, ⟨hk.1.2.2.2.1, hk.1.2.2.2.2⟩⟩⟩⟩⟩)⟩, ⟨by (with_reducible repeat (first | apply Kd.V_alloc | apply Kd.V_drewN | apply Kd.V_drew)); exact Kd.V_mono HO_262003.out (fun _ hk => ⟨hk.2, ⟨hk.1.1, ⟨hk.1.2.1, hk.1.2.2⟩⟩⟩)⟩, ⟨by (with_reducible repeat (first | refine blk_drewN ?_ _ | refine blk_drew ?_ | refine blk_alloc ?_ _)); exact BK247.out⟩, ⟨by (with_reducible repeat (first | refine blk_drewN ?_ _ | refine blk_drew ?_ | refine blk_alloc ?_ _)); exact BK260.out⟩, ⟨by (with_reducible repeat (first | refine blk_drewN ?_ _ | refine blk_drew ?_ | refine blk_alloc ?_ _)); exact BK261.out⟩, ⟨bQ3 GE247.out GE260.out GE261.out⟩⟩
          ·
           rw [if_neg c45] at H
           exact absurd H (by simp)
         ·
          rw [if_neg c44] at H
          exact absurd H (by simp)
      ·
       rw [if_neg c41] at H
       exact absurd ((Option.some.inj H).trans hr_.out) (by decide)
     ·
      rw [if_neg c40] at H
      exact absurd H (by simp)
    ·
     rw [if_neg c39] at H
     have c39b0 : decide (x14_1 < (t268.length : Int)) = false := decide_eq_false c39
     clear c39
     have H' := Aside0.mk H
     clear H
     obtain ⟨Ao51, co51, eo51⟩ := Kd.V_slice HO_7.out
     subst eo51
     go_wp2
     go_loopg [15] k1 (fun kq v15 w' => ∃ (x13_2 : List Int) (x15_2 : Int), v15 = .int .i64 x15_2 ∧ Aside0 (foretellkeep_BeginApart.l1 kq t268 t271 t272 t275 t276 t277 x13_2 x15_2 = some r) ∧ Aside0 (kq ≤ k1) ∧ Aside0 (Kd.V k45 45 w' w.heap.size (fun k_ => some k_ ≠ (v279 : Value).ownBlock ∧ k_ ≠ gb247 ∧ k_ ≠ gb260 ∧ k_ ≠ gb261) (.slice Ao51 t268.length co51) t268) ∧ Aside0 (Kd.V k45 45 w' w.heap.size (fun k_ => some k_ ≠ (v279 : Value).ownBlock ∧ k_ ≠ gb247 ∧ k_ ≠ gb260 ∧ k_ ≠ gb261) v273 t272) ∧ Aside0 (Kd.R (Kd.int .i64) 3 w' w.heap.size (fun _ => True) v279 x13_2) ∧ Aside0 (Kd.V k77 77 w' w.heap.size (fun k_ => some k_ ≠ (v279 : Value).ownBlock ∧ some k_ ≠ ((.slice Ao16 t251.length co16) : Value).ownBlock ∧ some k_ ≠ ((.slice Ao17 t254.length co17) : Value).ownBlock ∧ some k_ ≠ ((.slice Ao16 t251.length co16) : Value).ownBlock ∧ some k_ ≠ ((.slice Ao17 t254.length co17) : Value).ownBlock ∧ k_ ≠ gb247 ∧ k_ ≠ gb260 ∧ k_ ≠ gb261) (.slice Ao13 t248.length co13) t248) ∧ Aside0 (Kd.N k118 118 w' w.heap.size (fun k_ => some k_ ≠ (v279 : Value).ownBlock ∧ some k_ ≠ ((.slice Ao17 t254.length co17) : Value).ownBlock ∧ some k_ ≠ ((.slice Ao17 t254.length co17) : Value).ownBlock ∧ k_ ≠ gb247 ∧ k_ ≠ gb260 ∧ k_ ≠ gb261) (.slice Ao16 t251.length co16) t251) ∧ Aside0 (Kd.N (Kd.slice 72 k72) 32 w' w.heap.size (fun k_ => some k_ ≠ (v279 : Value).ownBlock ∧ some k_ ≠ ((.slice Ao16 t251.length co16) : Value).ownBlock ∧ some k_ ≠ ((.slice Ao16 t251.length co16) : Value).ownBlock ∧ k_ ≠ gb247 ∧ k_ ≠ gb260 ∧ k_ ≠ gb261) (.slice Ao17 t254.length co17) t254) ∧ Aside0 (Kd.V k72 72 w' w.heap.size (fun k_ => some k_ ≠ (v279 : Value).ownBlock ∧ some k_ ≠ ((.slice Ao16 t251.length co16) : Value).ownBlock ∧ some k_ ≠ ((.slice Ao17 t254.length co17) : Value).ownBlock ∧ some k_ ≠ ((.slice Ao16 t251.length co16) : Value).ownBlock ∧ some k_ ≠ ((.slice Ao17 t254.length co17) : Value).ownBlock ∧ k_ ≠ gb247 ∧ k_ ≠ gb260 ∧ k_ ≠ gb261) (.slice Ao18 t257.length co18) t257) ∧ Aside0 (Kd.V k77 77 w' w.heap.size (fun k_ => some k_ ≠ (v279 : Value).ownBlock ∧ some k_ ≠ ((.slice Ao16 t251.length co16) : Value).ownBlock ∧ some k_ ≠ ((.slice Ao17 t254.length co17) : Value).ownBlock ∧ some k_ ≠ ((.slice Ao16 t251.length co16) : Value).ownBlock ∧ some k_ ≠ ((.slice Ao17 t254.length co17) : Value).ownBlock ∧ k_ ≠ gb247 ∧ k_ ≠ gb260 ∧ k_ ≠ gb261) (.slice Ao13 t248.length co13) t248) ∧ Aside0 (Kd.N k118 118 w' w.heap.size (fun k_ => some k_ ≠ (v279 : Value).ownBlock ∧ some k_ ≠ ((.slice Ao17 t254.length co17) : Value).ownBlock ∧ some k_ ≠ ((.slice Ao17 t254.length co17) : Value).ownBlock ∧ k_ ≠ gb247 ∧ k_ ≠ gb260 ∧ k_ ≠ gb261) (.slice Ao16 t251.length co16) t251) ∧ Aside0 (Kd.N (Kd.slice 72 k72) 32 w' w.heap.size (fun k_ => some k_ ≠ (v279 : Value).ownBlock ∧ some k_ ≠ ((.slice Ao16 t251.length co16) : Value).ownBlock ∧ some k_ ≠ ((.slice Ao16 t251.length co16) : Value).ownBlock ∧ k_ ≠ gb247 ∧ k_ ≠ gb260 ∧ k_ ≠ gb261) (.slice Ao17 t254.length co17) t254) ∧ Aside0 (Kd.V k72 72 w' w.heap.size (fun k_ => some k_ ≠ (v279 : Value).ownBlock ∧ k_ ≠ gb247 ∧ k_ ≠ gb260 ∧ k_ ≠ gb261) (.slice Ao29 t265.length co29) t265) ∧ Aside0 (w'.heap[gb247]? = some (.cells #[.int .i64 a0_0, .int .i64 a0_1, .int .i64 a0_2, .int .i64 a0_3, .int .i64 a0_4, .int .i64 a0_5, (.slice A0_6 l0_6.length c0_6)] 25 (0, 0))) ∧ Aside0 (w'.heap[gb260]? = some (.cells #[(.slice Ao13 t248.length co13), (.slice Ao16 t251.length co16), (.slice Ao17 t254.length co17), (.slice Ao18 t257.length co18)] 34 (0, 0))) ∧ Aside0 (w'.heap[gb261]? = some (.cells #[(.slice Ao13 t248.length co13), (.slice Ao16 t251.length co16), (.slice Ao17 t254.length co17), (.slice Ao29 t265.length co29)] 34 (0, 0))) ∧ Aside0 (Below w.heap.size w w'))
     case atStart => exact ⟨(x13_1), (0), (by first | rfl | (simp; done) | (simp [*]; done)), H', ⟨Nat.le_refl _⟩, ⟨by (with_reducible repeat (first | apply Kd.V_alloc | apply Kd.V_drewN | apply Kd.V_drew)); exact HO_7.out⟩, ⟨by (with_reducible repeat (first | apply Kd.V_alloc | apply Kd.V_drewN | apply Kd.V_drew)); exact HO_9.out⟩, ⟨by (with_reducible repeat (first | apply Kd.R_alloc | apply Kd.R_drewN | apply Kd.R_drew)); exact HO_13.out⟩, ⟨by (with_reducible repeat (first | apply Kd.V_alloc | apply Kd.V_drewN | apply Kd.V_drew)); exact HO_261000.out⟩, ⟨by (with_reducible repeat (first | apply Kd.N_alloc | apply Kd.N_drewN | apply Kd.N_drew)); exact HO_261001.out⟩, ⟨by (with_reducible repeat (first | apply Kd.N_alloc | apply Kd.N_drewN | apply Kd.N_drew)); exact HO_261002.out⟩, ⟨by (with_reducible repeat (first | apply Kd.V_alloc | apply Kd.V_drewN | apply Kd.V_drew)); exact HO_261003.out⟩, ⟨by (with_reducible repeat (first | apply Kd.V_alloc | apply Kd.V_drewN | apply Kd.V_drew)); exact HO_262000.out⟩, ⟨by (with_reducible repeat (first | apply Kd.N_alloc | apply Kd.N_drewN | apply Kd.N_drew)); exact HO_262001.out⟩, ⟨by (with_reducible repeat (first | apply Kd.N_alloc | apply Kd.N_drewN | apply Kd.N_drew)); exact HO_262002.out⟩, ⟨by (with_reducible repeat (first | apply Kd.V_alloc | apply Kd.V_drewN | apply Kd.V_drew)); exact HO_262003.out⟩, ⟨by (with_reducible repeat (first | refine blk_drewN ?_ _ | refine blk_drew ?_ | refine blk_alloc ?_ _)); exact BK247.out⟩, ⟨by (with_reducible repeat (first | refine blk_drewN ?_ _ | refine blk_drew ?_ | refine blk_alloc ?_ _)); exact BK260.out⟩, ⟨by (with_reducible repeat (first | refine blk_drewN ?_ _ | refine blk_drew ?_ | refine blk_alloc ?_ _)); exact BK261.out⟩, ⟨bQ3 GE247.out GE260.out GE261.out⟩⟩
     case round =>
      clear H'
      try clear c1
      try clear c2
      try clear p2
      try clear q2
      try clear hx2
      try clear c3
      try clear c4
      try clear p4
      try clear q4
      try clear hx4
      try clear hf4
      try clear p6
      try clear c8
      try clear c8b0
      try clear c8b1
      try clear c9
      try clear c10
      try clear c11
      try clear c12
      try clear c14
      try clear c20
      try clear c21
      try clear p28
      try clear q28
      try clear hx28
      try clear c39
      try clear c39b0
      try clear c40
      try clear c40b0
      try clear c41
      try clear c41b0
      try clear c41b1
      try clear c42
      try clear c42b0
      try clear c43
      try clear c43b0
      try clear c44
      try clear c44b0
      try clear c45
      try clear c45b0
      try clear p46
      try clear q46
      try clear hx46
      try clear hf46
      try clear hcz10_0
      try clear hcz10_1
      try clear hcz10_2
      try clear hcz10_3
      try clear hcz10_4
      try clear hcz10_5
      try clear hcz10_6
      try clear hcz15_0
      try clear hcz15_1
      try clear hcz15_2
      try clear hcz15_3
      try clear hcz22_0
      try clear hcz22_1
      try clear hcz22_2
      try clear hcz22_3
      try clear hcz24_0
      try clear hcz24_1
      try clear hcz24_2
      try clear hcz24_3
      try clear hcz30_0
      try clear hcz30_1
      try clear hcz30_2
      try clear hcz30_3
      try clear hcz31_0
      try clear hcz31_1
      try clear hcz31_2
      try clear hcz31_3
      try clear hcz33_0
      try clear hcz33_1
      try clear hcz33_2
      try clear hcz33_3
      try clear hcz35_0
      try clear hcz35_1
      try clear hcz35_2
      try clear hcz35_3
      try clear hfz10_0
      try clear hfz10_1
      try clear hfz10_2
      try clear hfz10_3
      try clear hfz10_4
      try clear hfz10_5
      try clear hfz10_6
      try clear hfz15_0
      try clear hfz15_1
      try clear hfz15_2
      try clear hfz15_3
      try clear hfz22_0
      try clear hfz22_1
      try clear hfz22_2
      try clear hfz22_3
      try clear hfz24_0
      try clear hfz24_1
      try clear hfz24_2
      try clear hfz24_3
      try clear hfz30_0
      try clear hfz30_1
      try clear hfz30_2
      try clear hfz30_3
      try clear hfz31_0
      try clear hfz31_1
      try clear hfz31_2
      try clear hfz31_3
      try clear hfz33_0
      try clear hfz33_1
      try clear hfz33_2
      try clear hfz33_3
      try clear hfz35_0
      try clear hfz35_1
      try clear hfz35_2
      try clear hfz35_3
      try clear hx281_0
      try clear hx281_1
      try clear hx282_0
      try clear hx282_1
      try clear hx283_0
      try clear hx283_1
      try clear hx284_0
      try clear hx284_1
      try clear hx285_0
      try clear hx46_0
      try clear p2
      try clear p281
      try clear p282
      try clear p283
      try clear p284
      try clear p285
      try clear p46
      try clear q281
      try clear q282
      try clear q283
      try clear q284
      try clear q285
      try clear q46
      obtain ⟨x13_2, x15_2, rfl, HA, HK2, HO_7, HO_9, HO_13, HO_261000, HO_261001, HO_261002, HO_261003, HO_262000, HO_262001, HO_262002, HO_262003, BK247, BK260, BK261, HB⟩ := hrel
      cases gk with
      | zero => exact absurd HA.out (by simp [foretellkeep_BeginApart.l1])
      | succ k2 =>
       have H := HA.out
       clear HA
       simp only [foretellkeep_BeginApart.l1] at H
       by_cases c52 : x15_2 < (t272.length : Int)
       ·
        rw [if_pos c52] at H
        have c52b0 : decide (x15_2 < (t272.length : Int)) = true := decide_eq_true c52
        clear c52
        by_cases c53 : 0 ≤ x15_2
        ·
         rw [if_pos c53] at H
         have c53b0 : decide (0 ≤ x15_2) = true := decide_eq_true c53
         clear c53
         by_cases c54 : ((rd_T45 t272 x15_2).f0) = t276
         ·
          rw [if_pos c54] at H
          have c54b0 : (((rd_T45 t272 x15_2).f0) == t276) = true := beq_iff_eq.mpr c54
          have c54b1 : (((rd_T45 t272 x15_2).f0) != t276) = false := bne_eq_false_iff_eq.mpr c54
          clear c54
          by_cases c55 : ((rd_T45 t272 x15_2).f1) < 0
          ·
           rw [if_pos c55] at H
           exact absurd ((Option.some.inj H).trans hr_.out) (by decide)
          ·
           rw [if_neg c55] at H
           have c55b0 : decide (((rd_T45 t272 x15_2).f1) < 0) = false := decide_eq_false c55
           clear c55
           by_cases c56 : ((rd_T45 t272 x15_2).f1) > 7
           ·
            rw [if_pos c56] at H
            exact absurd ((Option.some.inj H).trans hr_.out) (by decide)
           ·
            rw [if_neg c56] at H
            have c56b0 : decide (7 < ((rd_T45 t272 x15_2).f1)) = false := decide_eq_false c56
            clear c56
            by_cases c57 : 0 ≤ ((rd_T45 t272 x15_2).f1)
            ·
             rw [if_pos c57] at H
             have c57b0 : decide (0 ≤ ((rd_T45 t272 x15_2).f1)) = true := decide_eq_true c57
             clear c57
             by_cases c58 : ((rd_T45 t272 x15_2).f1) < (x13_2.length : Int)
             ·
              rw [if_pos c58] at H
              have c58b0 : decide (((rd_T45 t272 x15_2).f1) < (x13_2.length : Int)) = true := decide_eq_true c58
              clear c58
              obtain ⟨y292, hy292⟩ : ∃ y_ : List Int, y_ = (x13_2.set (((rd_T45 t272 x15_2).f1) : Int).toNat (wrap64 ((rd x13_2 ((rd_T45 t272 x15_2).f1)) + 1))) := ⟨_, rfl⟩
              replace H : (foretellkeep_BeginApart.l1 k2 t268 t271 t272 t275 t276 t277 y292 (wrap64 (x15_2 + 1))) = some r := by first | (rw [hy292]; with_reducible exact H) | (have H2_ := (Option.bind_some _ _).symm.trans H; rw [hy292]; with_reducible exact H2_) | (have H2_ := (Option.bind_some _ _).symm.trans H; with_reducible exact H2_) | with_reducible exact H | (rw [hy292]; exact H) | exact H
              have Ny292 := Aside0.mk hy292
              clear hy292
              have H' := Aside0.mk H
              clear H
              obtain ⟨Ao60, co60, eo60⟩ := Kd.V_slice HO_9.out
              subst eo60
              have p287 : 0 ≤ (x15_2 : Int) := of_decide_eq_true (by first | (with_reducible assumption) | assumption)
              have q287 : x15_2 < (t272.length : Int) := of_decide_eq_true (by first | (with_reducible assumption) | assumption)
              obtain ⟨ad287, e287, hx287_0, hx287_1⟩ := at_T45 (Kd.V_reads' HO_9.out).2.2 x15_2 p287 q287
              cases e287
              replace p287 := eq_true p287
              replace q287 := eq_true q287
              have p288 : 0 ≤ (x15_2 : Int) := of_decide_eq_true (by first | (with_reducible assumption) | assumption)
              have q288 : x15_2 < (t272.length : Int) := of_decide_eq_true (by first | (with_reducible assumption) | assumption)
              obtain ⟨ad288, e288, hx288_0, hx288_1⟩ := at_T45 (Kd.V_reads' HO_9.out).2.2 x15_2 p288 q288
              obtain rfl : ad287 = ad288 := (by injection e288)
              replace p288 := eq_true p288
              replace q288 := eq_true q288
              have p289 : 0 ≤ (x15_2 : Int) := of_decide_eq_true (by first | (with_reducible assumption) | assumption)
              have q289 : x15_2 < (t272.length : Int) := of_decide_eq_true (by first | (with_reducible assumption) | assumption)
              obtain ⟨ad289, e289, hx289_0, hx289_1⟩ := at_T45 (Kd.V_reads' HO_9.out).2.2 x15_2 p289 q289
              obtain rfl : ad287 = ad289 := (by injection e289)
              replace p289 := eq_true p289
              replace q289 := eq_true q289
              have p290 : 0 ≤ (x15_2 : Int) := of_decide_eq_true (by first | (with_reducible assumption) | assumption)
              have q290 : x15_2 < (t272.length : Int) := of_decide_eq_true (by first | (with_reducible assumption) | assumption)
              obtain ⟨ad290, e290, hx290_0, hx290_1⟩ := at_T45 (Kd.V_reads' HO_9.out).2.2 x15_2 p290 q290
              obtain rfl : ad287 = ad290 := (by injection e290)
              replace p290 := eq_true p290
              replace q290 := eq_true q290
              obtain ⟨Ao61, co61, eo61⟩ := Kd.R_slice HO_13.out
              subst eo61
              have p291 : 0 ≤ (((rd_T45 t272 x15_2).f1) : Int) := of_decide_eq_true (by first | (with_reducible assumption) | assumption)
              have q291 : ((rd_T45 t272 x15_2).f1) < (x13_2.length : Int) := of_decide_eq_true (by first | (with_reducible assumption) | assumption)
              obtain ⟨ad291, e291, hx291_0⟩ := Kd.at_int (Kd.R_reads' HO_13.out).2.2 ((rd_T45 t272 x15_2).f1) p291 q291
              cases e291
              replace p291 := eq_true p291
              replace q291 := eq_true q291
              have p59 : 0 ≤ (((rd_T45 t272 x15_2).f1) : Int) := of_decide_eq_true (by first | (with_reducible assumption) | assumption)
              have q59 : (((rd_T45 t272 x15_2).f1) : Int) < ((x13_2.length : Int) : Int) := of_decide_eq_true (by first | (with_reducible assumption) | assumption)
              obtain ⟨go59, co59, eo59, gb59, gl59, cl59, HG59⟩ := Kd.R_form HO_13.out (by omega)
              (first | cases eo59 | (injection eo59 with ea_ en_ ec_; (first | subst ea_ | (injection ea_ with ea_; subst ea_)); subst ec_; clear en_))
              have GB59 := Aside0.mk gb59
              have GG59 := Aside0.mk HG59
              clear gb59 gl59 HG59
              (first | simp only [add_plain] at hx291_0 | skip)
              obtain ⟨hx59_0, hf59_0⟩ := Kd.R_celln 0 HO_13.out (((rd_T45 t272 x15_2).f1) : Int) p59 q59
              replace p59 := eq_true p59
              replace q59 := eq_true q59
              have HP62 := Kd.R_putg HO_13.out (((rd_T45 t272 x15_2).f1) : Int) (wrap64 ((rd x13_2 ((rd_T45 t272 x15_2).f1)) + 1))
              go_wp2_with (first | ((with_reducible refine gate_store (t := 3) (p := 121) rfl ?_); refine store_event (t := 3) (p := 121) (v := ?vo_w63) (w1 := (wr.setCell ⟨go59, (((rd_T45 t272 x15_2).f1) : Int).toNat, none⟩ (.int .i64 (wrap64 ((rd x13_2 ((rd_T45 t272 x15_2).f1)) + 1))))) ?hg ?ho ?hn ?hr ?_; (case ho => rfl); (case hg => rfl); (case hn => rfl); (case hr => first | (go_simp; done) | (go_simp; rfl)); intro w63 hw; have hg : wr.grownBy w63 (some go59) := (by rw [hw]; exact HP62.2); have hp_ : Kd.R (Kd.int .i64) 3 w63 w.heap.size (fun _ => True) (.slice (some ⟨go59, 0, none⟩) x13_2.length co61) y292 := (by rw [hw, Ny292.out]; exact HP62.1); clear HP62; have n0_ := Aside0.mk (Kd.V_afterv (v := (.slice (some ⟨go59, 0, none⟩) x13_2.length co61)) (v1 := (.slice (some ⟨go59, 0, none⟩) x13_2.length co61)) (ok := (fun k_ => k_ ≠ gb247 ∧ k_ ≠ gb260 ∧ k_ ≠ gb261)) (by (with_reducible repeat (first | apply Kd.V_alloc | apply Kd.V_drewN | apply Kd.V_drew)); exact Kd.V_mono HO_7.out (fun _ hk => ⟨⟨hk.2.1, ⟨hk.2.2.1, hk.2.2.2⟩⟩, hk.1⟩)) hg (.inl rfl)); have n1_ := Aside0.mk (Kd.V_afterv (v := (.slice (some ⟨go59, 0, none⟩) x13_2.length co61)) (v1 := (.slice (some ⟨go59, 0, none⟩) x13_2.length co61)) (ok := (fun k_ => k_ ≠ gb247 ∧ k_ ≠ gb260 ∧ k_ ≠ gb261)) (by (with_reducible repeat (first | apply Kd.V_alloc | apply Kd.V_drewN | apply Kd.V_drew)); exact Kd.V_mono HO_9.out (fun _ hk => ⟨⟨hk.2.1, ⟨hk.2.2.1, hk.2.2.2⟩⟩, hk.1⟩)) hg (.inl rfl)); have n2_ := Aside0.mk (hp_); have n3_ := Aside0.mk (Kd.V_afterv (v := (.slice (some ⟨go59, 0, none⟩) x13_2.length co61)) (v1 := (.slice (some ⟨go59, 0, none⟩) x13_2.length co61)) (ok := (fun k_ => some k_ ≠ (.slice Ao16 t251.length co16 : Value).ownBlock ∧ some k_ ≠ (.slice Ao17 t254.length co17 : Value).ownBlock ∧ some k_ ≠ (.slice Ao16 t251.length co16 : Value).ownBlock ∧ some k_ ≠ (.slice Ao17 t254.length co17 : Value).ownBlock ∧ k_ ≠ gb247 ∧ k_ ≠ gb260 ∧ k_ ≠ gb261)) (by (with_reducible repeat (first | apply Kd.V_alloc | apply Kd.V_drewN | apply Kd.V_drew)); exact Kd.V_mono HO_261000.out (fun _ hk => ⟨⟨hk.2.1, ⟨hk.2.2.1, ⟨hk.2.2.2.1, ⟨hk.2.2.2.2.1, ⟨hk.2.2.2.2.2.1, ⟨hk.2.2.2.2.2.2.1, hk.2.2.2.2.2.2.2⟩⟩⟩⟩⟩⟩, hk.1⟩)) hg (.inl rfl)); have n4_ := Aside0.mk (Kd.N_afterv (v := (.slice (some ⟨go59, 0, none⟩) x13_2.length co61)) (v1 := (.slice (some ⟨go59, 0, none⟩) x13_2.length co61)) (ok := (fun k_ => some k_ ≠ (.slice Ao17 t254.length co17 : Value).ownBlock ∧ some k_ ≠ (.slice Ao17 t254.length co17 : Value).ownBlock ∧ k_ ≠ gb247 ∧ k_ ≠ gb260 ∧ k_ ≠ gb261)) (by (with_reducible repeat (first | apply Kd.N_alloc | apply Kd.N_drewN | apply Kd.N_drew)); exact Kd.N_mono HO_261001.out (fun _ hk => ⟨⟨hk.2.1, ⟨hk.2.2.1, ⟨hk.2.2.2.1, ⟨hk.2.2.2.2.1, hk.2.2.2.2.2⟩⟩⟩⟩, hk.1⟩)) hg (.inl rfl)); have n5_ := Aside0.mk (Kd.N_afterv (v := (.slice (some ⟨go59, 0, none⟩) x13_2.length co61)) (v1 := (.slice (some ⟨go59, 0, none⟩) x13_2.length co61)) (ok := (fun k_ => some k_ ≠ (.slice Ao16 t251.length co16 : Value).ownBlock ∧ some k_ ≠ (.slice Ao16 t251.length co16 : Value).ownBlock ∧ k_ ≠ gb247 ∧ k_ ≠ gb260 ∧ k_ ≠ gb261)) (by (with_reducible repeat (first | apply Kd.N_alloc | apply Kd.N_drewN | apply Kd.N_drew)); exact Kd.N_mono HO_261002.out (fun _ hk => ⟨⟨hk.2.1, ⟨hk.2.2.1, ⟨hk.2.2.2.1, ⟨hk.2.2.2.2.1, hk.2.2.2.2.2⟩⟩⟩⟩, hk.1⟩)) hg (.inl rfl)); have n6_ := Aside0.mk (Kd.V_afterv (v := (.slice (some ⟨go59, 0, none⟩) x13_2.length co61)) (v1 := (.slice (some ⟨go59, 0, none⟩) x13_2.length co61)) (ok := (fun k_ => some k_ ≠ (.slice Ao16 t251.length co16 : Value).ownBlock ∧ some k_ ≠ (.slice Ao17 t254.length co17 : Value).ownBlock ∧ some k_ ≠ (.slice Ao16 t251.length co16 : Value).ownBlock ∧ some k_ ≠ (.slice Ao17 t254.length co17 : Value).ownBlock ∧ k_ ≠ gb247 ∧ k_ ≠ gb260 ∧ k_ ≠ gb261)) (by (with_reducible repeat (first | apply Kd.V_alloc | apply Kd.V_drewN | apply Kd.V_drew)); exact Kd.V_mono HO_261003.out (fun _ hk => ⟨⟨hk.2.1, ⟨hk.2.2.1, ⟨hk.2.2.2.1, ⟨hk.2.2.2.2.1, ⟨hk.2.2.2.2.2.1, ⟨hk.2.2.2.2.2.2.1, hk.2.2.2.2.2.2.2⟩⟩⟩⟩⟩⟩, hk.1⟩)) hg (.inl rfl)); have n7_ := Aside0.mk (Kd.V_afterv (v := (.slice (some ⟨go59, 0, none⟩) x13_2.length co61)) (v1 := (.slice (some ⟨go59, 0, none⟩) x13_2.length co61)) (ok := (fun k_ => some k_ ≠ (.slice Ao16 t251.length co16 : Value).ownBlock ∧ some k_ ≠ (.slice Ao17 t254.length co17 : Value).ownBlock ∧ some k_ ≠ (.slice Ao16 t251.length co16 : Value).ownBlock ∧ some k_ ≠ (.slice Ao17 t254.length co17 : Value).ownBlock ∧ k_ ≠ gb247 ∧ k_ ≠ gb260 ∧ k_ ≠ gb261)) (by (with_reducible repeat (first | apply Kd.V_alloc | apply Kd.V_drewN | apply Kd.V_drew)); exact Kd.V_mono HO_262000.out (fun _ hk => ⟨⟨hk.2.1, ⟨hk.2.2.1, ⟨hk.2.2.2.1, ⟨hk.2.2.2.2.1, ⟨hk.2.2.2.2.2.1, ⟨hk.2.2.2.2.2.2.1, hk.2.2.2.2.2.2.2⟩⟩⟩⟩⟩⟩, hk.1⟩)) hg (.inl rfl)); have n8_ := Aside0.mk (Kd.N_afterv (v := (.slice (some ⟨go59, 0, none⟩) x13_2.length co61)) (v1 := (.slice (some ⟨go59, 0, none⟩) x13_2.length co61)) (ok := (fun k_ => some k_ ≠ (.slice Ao17 t254.length co17 : Value).ownBlock ∧ some k_ ≠ (.slice Ao17 t254.length co17 : Value).ownBlock ∧ k_ ≠ gb247 ∧ k_ ≠ gb260 ∧ k_ ≠ gb261)) (by (with_reducible repeat (first | apply Kd.N_alloc | apply Kd.N_drewN | apply Kd.N_drew)); exact Kd.N_mono HO_262001.out (fun _ hk => ⟨⟨hk.2.1, ⟨hk.2.2.1, ⟨hk.2.2.2.1, ⟨hk.2.2.2.2.1, hk.2.2.2.2.2⟩⟩⟩⟩, hk.1⟩)) hg (.inl rfl)); have n9_ := Aside0.mk (Kd.N_afterv (v := (.slice (some ⟨go59, 0, none⟩) x13_2.length co61)) (v1 := (.slice (some ⟨go59, 0, none⟩) x13_2.length co61)) (ok := (fun k_ => some k_ ≠ (.slice Ao16 t251.length co16 : Value).ownBlock ∧ some k_ ≠ (.slice Ao16 t251.length co16 : Value).ownBlock ∧ k_ ≠ gb247 ∧ k_ ≠ gb260 ∧ k_ ≠ gb261)) (by (with_reducible repeat (first | apply Kd.N_alloc | apply Kd.N_drewN | apply Kd.N_drew)); exact Kd.N_mono HO_262002.out (fun _ hk => ⟨⟨hk.2.1, ⟨hk.2.2.1, ⟨hk.2.2.2.1, ⟨hk.2.2.2.2.1, hk.2.2.2.2.2⟩⟩⟩⟩, hk.1⟩)) hg (.inl rfl)); have n10_ := Aside0.mk (Kd.V_afterv (v := (.slice (some ⟨go59, 0, none⟩) x13_2.length co61)) (v1 := (.slice (some ⟨go59, 0, none⟩) x13_2.length co61)) (ok := (fun k_ => k_ ≠ gb247 ∧ k_ ≠ gb260 ∧ k_ ≠ gb261)) (by (with_reducible repeat (first | apply Kd.V_alloc | apply Kd.V_drewN | apply Kd.V_drew)); exact Kd.V_mono HO_262003.out (fun _ hk => ⟨⟨hk.2.1, ⟨hk.2.2.1, hk.2.2.2⟩⟩, hk.1⟩)) hg (.inl rfl)); have n11_ := Aside0.mk (blk_grown (g := gb247) (o := .cells #[.int .i64 a0_0, .int .i64 a0_1, .int .i64 a0_2, .int .i64 a0_3, .int .i64 a0_4, .int .i64 a0_5, .slice A0_6 l0_6.length c0_6] 25 (0, 0)) (kQ BK247.out) hg (Kd.R_ne HO_13.out BK247.out (by decide))); have n12_ := Aside0.mk (blk_grown (g := gb260) (o := .cells #[.slice Ao13 t248.length co13, .slice Ao16 t251.length co16, .slice Ao17 t254.length co17, .slice Ao18 t257.length co18] 34 (0, 0)) (kQ BK260.out) hg (Kd.R_ne HO_13.out BK260.out (by decide))); have n13_ := Aside0.mk (blk_grown (g := gb261) (o := .cells #[.slice Ao13 t248.length co13, .slice Ao16 t251.length co16, .slice Ao17 t254.length co17, .slice Ao29 t265.length co29] 34 (0, 0)) (kQ BK261.out) hg (Kd.R_ne HO_13.out BK261.out (by decide))); have n14_ := Aside0.mk ((by rw [hw]; exact below_set (HB.out) GB59.out : Below w.heap.size w w63)); clear HO_7; clear HO_9; clear HO_13; clear HO_261000; clear HO_261001; clear HO_261002; clear HO_261003; clear HO_262000; clear HO_262001; clear HO_262002; clear HO_262003; clear BK247; clear BK260; clear BK261; clear HB; have HO_7 := n0_; have HO_9 := n1_; have HO_13 := n2_; have HO_261000 := n3_; have HO_261001 := n4_; have HO_261002 := n5_; have HO_261003 := n6_; have HO_262000 := n7_; have HO_262001 := n8_; have HO_262002 := n9_; have HO_262003 := n10_; have BK247 := n11_; have BK260 := n12_; have BK261 := n13_; have HB := n14_; clear n0_ n1_ n2_ n3_ n4_ n5_ n6_ n7_ n8_ n9_ n10_ n11_ n12_ n13_ n14_; clear hg hw hp_))
              go_roundg k2
              case measure => have := HK1.out; have := HK2.out; omega
              case rel => exact ⟨(y292), (wrap64 (x15_2 + 1)), (by first | rfl | (simp; done) | (simp [*]; done)), H', ⟨by have := HK1.out; have := HK2.out; omega⟩, ⟨by (with_reducible repeat (first | apply Kd.V_alloc | apply Kd.V_drewN | apply Kd.V_drew)); exact Kd.V_mono HO_7.out (fun _ hk => ⟨hk.2, ⟨hk.1.1, ⟨hk.1.2.1, hk.1.2.2⟩⟩⟩)⟩, ⟨by (with_reducible repeat (first | apply Kd.V_alloc | apply Kd.V_drewN | apply Kd.V_drew)); exact Kd.V_mono HO_9.out (fun _ hk => ⟨hk.2, ⟨hk.1.1, ⟨hk.1.2.1, hk.1.2.2⟩⟩⟩)⟩, ⟨by (with_reducible repeat (first | apply Kd.R_alloc | apply Kd.R_drewN | apply Kd.R_drew)); exact HO_13.out⟩, ⟨by (with_reducible repeat (first | apply Kd.V_alloc | apply Kd.V_drewN | apply Kd.V_drew)); exact Kd.V_mono HO_261000.out (fun _ hk => ⟨hk.2, ⟨hk.1.1, ⟨hk.1.2.1, ⟨hk.1.2.2.1, ⟨hk.1.2.2.2.1, ⟨hk.1.2.2.2.2.1, ⟨hk.1.2.2.2.2.2.1, hk.1.2.2.2.2.2.2⟩⟩⟩⟩⟩⟩⟩)⟩, ⟨by (with_reducible repeat (first | apply Kd.N_alloc | apply Kd.N_drewN | apply Kd.N_drew)); exact Kd.N_mono HO_261001.out (fun _ hk => ⟨hk.2, ⟨hk.1.1, ⟨hk.1.2.1, ⟨hk.1.2.2.1, ⟨hk.1.2.2.2.1, hk.1.2.2.2.2⟩⟩⟩⟩⟩)⟩, ⟨by (with_reducible repeat (first | apply Kd.N_alloc | apply Kd.N_drewN | apply Kd.N_drew)); exact Kd.N_mono HO_261002.out (fun _ hk => ⟨hk.2, ⟨hk.1.1, ⟨hk.1.2.1, ⟨hk.1.2.2.1, ⟨hk.1.2.2.2.1, hk.1.2.2.2.2⟩⟩⟩⟩⟩)⟩, ⟨by (with_reducible repeat (first | apply Kd.V_alloc | apply Kd.V_drewN | apply Kd.V_drew)); exact Kd.V_mono HO_261003.out (fun _ hk => ⟨hk.2, ⟨hk.1.1, ⟨hk.1.2.1, ⟨hk.1.2.2.1, ⟨hk.1.2.2.2.1, ⟨hk.1.2.2.2.2.1, ⟨hk.1.2.2.2.2.2.1, hk.1.2.2.2.2.2.2⟩⟩⟩⟩⟩⟩⟩)⟩, ⟨by (with_reducible repeat (first | apply Kd.V_alloc | apply Kd.V_drewN | apply Kd.V_drew)); exact Kd.V_mono HO_262000.out (fun _ hk => ⟨hk.2, ⟨hk.1.1, ⟨hk.1.2.1, ⟨hk.1.2.2.1, ⟨hk.1.2.2.2.1, ⟨hk.1.2.2.2.2.1, ⟨hk.1.2.2.2.2.2.1, hk.1.2.2.2.2.2.2⟩⟩⟩⟩⟩⟩⟩)⟩, ⟨by (with_reducible repeat (first | apply Kd.N_alloc | apply Kd.N_drewN | apply Kd.N_drew)); exact Kd.N_mono HO_262001.out (fun _ hk => ⟨hk.2, ⟨hk.1.1, ⟨hk.1.2.1, ⟨hk.1.2.2.1, ⟨hk.1.2.2.2.1, hk.1.2.2.2.2⟩⟩⟩⟩⟩)⟩, ⟨by (with_reducible repeat (first | apply Kd.N_alloc | apply Kd.N_drewN | apply Kd.N_drew)); exact Kd.N_mono HO_262002.out (fun _ hk => ⟨hk.2, ⟨hk.1.1, ⟨hk.1.2.1, ⟨hk.1.2.2.1, ⟨hk.1.2.2.2.1, hk.1.2.2.2.2⟩⟩⟩⟩⟩)⟩, ⟨by (with_reducible repeat (first | apply Kd.V_alloc | apply Kd.V_drewN | apply Kd.V_drew)); exact Kd.V_mono HO_262003.out (fun _ hk => ⟨hk.2, ⟨hk.1.1, ⟨hk.1.2.1, hk.1.2.2⟩⟩⟩)⟩, ⟨by (with_reducible repeat (first | refine blk_drewN ?_ _ | refine blk_drew ?_ | refine blk_alloc ?_ _)); exact BK247.out⟩, ⟨by (with_reducible repeat (first | refine blk_drewN ?_ _ | refine blk_drew ?_ | refine blk_alloc ?_ _)); exact BK260.out⟩, ⟨by (with_reducible repeat (first | refine blk_drewN ?_ _ | refine blk_drew ?_ | refine blk_alloc ?_ _)); exact BK261.out⟩, ⟨bQ3 GE247.out GE260.out GE261.out⟩⟩
             ·
              rw [if_neg c58] at H
              exact absurd H (by simp)
            ·
             rw [if_neg c57] at H
             exact absurd H (by simp)
         ·
          rw [if_neg c54] at H
          exact absurd ((Option.some.inj H).trans hr_.out) (by decide)
        ·
         rw [if_neg c53] at H
         exact absurd H (by simp)
       ·
        rw [if_neg c52] at H
        have c52b0 : decide (x15_2 < (t272.length : Int)) = false := decide_eq_false c52
        clear c52
        have H' := Aside0.mk H
        clear H
        obtain ⟨Ao64, co64, eo64⟩ := Kd.V_slice HO_9.out
        subst eo64
        go_wp2
        go_loopg [17] k2 (fun kq v17 w' => ∃ (x17_3 : Int), v17 = .int .i64 x17_3 ∧ Aside0 (foretellkeep_BeginApart.l2 kq t271 t275 t277 x13_2 (wrap64 ((t268.length : Int) + (t272.length : Int))) x17_3 = some r) ∧ Aside0 (kq ≤ k2) ∧ Aside0 (Kd.R (Kd.int .i64) 3 w' w.heap.size (fun _ => True) v279 x13_2) ∧ Aside0 (Kd.V k77 77 w' w.heap.size (fun k_ => some k_ ≠ (v279 : Value).ownBlock ∧ some k_ ≠ ((.slice Ao16 t251.length co16) : Value).ownBlock ∧ some k_ ≠ ((.slice Ao17 t254.length co17) : Value).ownBlock ∧ some k_ ≠ ((.slice Ao16 t251.length co16) : Value).ownBlock ∧ some k_ ≠ ((.slice Ao17 t254.length co17) : Value).ownBlock ∧ k_ ≠ gb247 ∧ k_ ≠ gb260 ∧ k_ ≠ gb261) (.slice Ao13 t248.length co13) t248) ∧ Aside0 (Kd.N k118 118 w' w.heap.size (fun k_ => some k_ ≠ (v279 : Value).ownBlock ∧ some k_ ≠ ((.slice Ao17 t254.length co17) : Value).ownBlock ∧ some k_ ≠ ((.slice Ao17 t254.length co17) : Value).ownBlock ∧ k_ ≠ gb247 ∧ k_ ≠ gb260 ∧ k_ ≠ gb261) (.slice Ao16 t251.length co16) t251) ∧ Aside0 (Kd.N (Kd.slice 72 k72) 32 w' w.heap.size (fun k_ => some k_ ≠ (v279 : Value).ownBlock ∧ some k_ ≠ ((.slice Ao16 t251.length co16) : Value).ownBlock ∧ some k_ ≠ ((.slice Ao16 t251.length co16) : Value).ownBlock ∧ k_ ≠ gb247 ∧ k_ ≠ gb260 ∧ k_ ≠ gb261) (.slice Ao17 t254.length co17) t254) ∧ Aside0 (Kd.V k72 72 w' w.heap.size (fun k_ => some k_ ≠ (v279 : Value).ownBlock ∧ some k_ ≠ ((.slice Ao16 t251.length co16) : Value).ownBlock ∧ some k_ ≠ ((.slice Ao17 t254.length co17) : Value).ownBlock ∧ some k_ ≠ ((.slice Ao16 t251.length co16) : Value).ownBlock ∧ some k_ ≠ ((.slice Ao17 t254.length co17) : Value).ownBlock ∧ k_ ≠ gb247 ∧ k_ ≠ gb260 ∧ k_ ≠ gb261) (.slice Ao18 t257.length co18) t257) ∧ Aside0 (Kd.V k77 77 w' w.heap.size (fun k_ => some k_ ≠ (v279 : Value).ownBlock ∧ some k_ ≠ ((.slice Ao16 t251.length co16) : Value).ownBlock ∧ some k_ ≠ ((.slice Ao17 t254.length co17) : Value).ownBlock ∧ some k_ ≠ ((.slice Ao16 t251.length co16) : Value).ownBlock ∧ some k_ ≠ ((.slice Ao17 t254.length co17) : Value).ownBlock ∧ k_ ≠ gb247 ∧ k_ ≠ gb260 ∧ k_ ≠ gb261) (.slice Ao13 t248.length co13) t248) ∧ Aside0 (Kd.N k118 118 w' w.heap.size (fun k_ => some k_ ≠ (v279 : Value).ownBlock ∧ some k_ ≠ ((.slice Ao17 t254.length co17) : Value).ownBlock ∧ some k_ ≠ ((.slice Ao17 t254.length co17) : Value).ownBlock ∧ k_ ≠ gb247 ∧ k_ ≠ gb260 ∧ k_ ≠ gb261) (.slice Ao16 t251.length co16) t251) ∧ Aside0 (Kd.N (Kd.slice 72 k72) 32 w' w.heap.size (fun k_ => some k_ ≠ (v279 : Value).ownBlock ∧ some k_ ≠ ((.slice Ao16 t251.length co16) : Value).ownBlock ∧ some k_ ≠ ((.slice Ao16 t251.length co16) : Value).ownBlock ∧ k_ ≠ gb247 ∧ k_ ≠ gb260 ∧ k_ ≠ gb261) (.slice Ao17 t254.length co17) t254) ∧ Aside0 (Kd.V k72 72 w' w.heap.size (fun k_ => some k_ ≠ (v279 : Value).ownBlock ∧ k_ ≠ gb247 ∧ k_ ≠ gb260 ∧ k_ ≠ gb261) (.slice Ao29 t265.length co29) t265) ∧ Aside0 (w'.heap[gb247]? = some (.cells #[.int .i64 a0_0, .int .i64 a0_1, .int .i64 a0_2, .int .i64 a0_3, .int .i64 a0_4, .int .i64 a0_5, (.slice A0_6 l0_6.length c0_6)] 25 (0, 0))) ∧ Aside0 (w'.heap[gb260]? = some (.cells #[(.slice Ao13 t248.length co13), (.slice Ao16 t251.length co16), (.slice Ao17 t254.length co17), (.slice Ao18 t257.length co18)] 34 (0, 0))) ∧ Aside0 (w'.heap[gb261]? = some (.cells #[(.slice Ao13 t248.length co13), (.slice Ao16 t251.length co16), (.slice Ao17 t254.length co17), (.slice Ao29 t265.length co29)] 34 (0, 0))) ∧ Aside0 (Below w.heap.size w w'))
        case atStart => exact ⟨(0), (by first | rfl | (simp; done) | (simp [*]; done)), H', ⟨Nat.le_refl _⟩, ⟨by (with_reducible repeat (first | apply Kd.R_alloc | apply Kd.R_drewN | apply Kd.R_drew)); exact HO_13.out⟩, ⟨by (with_reducible repeat (first | apply Kd.V_alloc | apply Kd.V_drewN | apply Kd.V_drew)); exact HO_261000.out⟩, ⟨by (with_reducible repeat (first | apply Kd.N_alloc | apply Kd.N_drewN | apply Kd.N_drew)); exact HO_261001.out⟩, ⟨by (with_reducible repeat (first | apply Kd.N_alloc | apply Kd.N_drewN | apply Kd.N_drew)); exact HO_261002.out⟩, ⟨by (with_reducible repeat (first | apply Kd.V_alloc | apply Kd.V_drewN | apply Kd.V_drew)); exact HO_261003.out⟩, ⟨by (with_reducible repeat (first | apply Kd.V_alloc | apply Kd.V_drewN | apply Kd.V_drew)); exact HO_262000.out⟩, ⟨by (with_reducible repeat (first | apply Kd.N_alloc | apply Kd.N_drewN | apply Kd.N_drew)); exact HO_262001.out⟩, ⟨by (with_reducible repeat (first | apply Kd.N_alloc | apply Kd.N_drewN | apply Kd.N_drew)); exact HO_262002.out⟩, ⟨by (with_reducible repeat (first | apply Kd.V_alloc | apply Kd.V_drewN | apply Kd.V_drew)); exact HO_262003.out⟩, ⟨by (with_reducible repeat (first | refine blk_drewN ?_ _ | refine blk_drew ?_ | refine blk_alloc ?_ _)); exact BK247.out⟩, ⟨by (with_reducible repeat (first | refine blk_drewN ?_ _ | refine blk_drew ?_ | refine blk_alloc ?_ _)); exact BK260.out⟩, ⟨by (with_reducible repeat (first | refine blk_drewN ?_ _ | refine blk_drew ?_ | refine blk_alloc ?_ _)); exact BK261.out⟩, ⟨bQ3 GE247.out GE260.out GE261.out⟩⟩
        case round =>
         clear H'
         try clear c1
         try clear c2
         try clear p2
         try clear q2
         try clear hx2
         try clear c3
         try clear c4
         try clear p4
         try clear q4
         try clear hx4
         try clear hf4
         try clear c5
         try clear p5
         try clear q5
         try clear hx5
         try clear hf5
         try clear p6
         try clear c8
         try clear c8b0
         try clear c8b1
         try clear c9
         try clear c10
         try clear c11
         try clear c12
         try clear c14
         try clear c20
         try clear c21
         try clear p28
         try clear q28
         try clear hx28
         try clear p29
         try clear q29
         try clear hx29
         try clear c39
         try clear c39b0
         try clear c40
         try clear c40b0
         try clear c41
         try clear c41b0
         try clear c41b1
         try clear c42
         try clear c42b0
         try clear c43
         try clear c43b0
         try clear c44
         try clear c44b0
         try clear c45
         try clear c45b0
         try clear p46
         try clear q46
         try clear hx46
         try clear hf46
         try clear c52
         try clear c52b0
         try clear c53
         try clear c53b0
         try clear c54
         try clear c54b0
         try clear c54b1
         try clear c55
         try clear c55b0
         try clear c56
         try clear c56b0
         try clear c57
         try clear c57b0
         try clear c58
         try clear c58b0
         try clear p59
         try clear q59
         try clear hx59
         try clear hf59
         try clear p64
         try clear hcz10_0
         try clear hcz10_1
         try clear hcz10_2
         try clear hcz10_3
         try clear hcz10_4
         try clear hcz10_5
         try clear hcz10_6
         try clear hcz15_0
         try clear hcz15_1
         try clear hcz15_2
         try clear hcz15_3
         try clear hcz22_0
         try clear hcz22_1
         try clear hcz22_2
         try clear hcz22_3
         try clear hcz24_0
         try clear hcz24_1
         try clear hcz24_2
         try clear hcz24_3
         try clear hcz30_0
         try clear hcz30_1
         try clear hcz30_2
         try clear hcz30_3
         try clear hcz31_0
         try clear hcz31_1
         try clear hcz31_2
         try clear hcz31_3
         try clear hcz33_0
         try clear hcz33_1
         try clear hcz33_2
         try clear hcz33_3
         try clear hcz35_0
         try clear hcz35_1
         try clear hcz35_2
         try clear hcz35_3
         try clear hfz10_0
         try clear hfz10_1
         try clear hfz10_2
         try clear hfz10_3
         try clear hfz10_4
         try clear hfz10_5
         try clear hfz10_6
         try clear hfz15_0
         try clear hfz15_1
         try clear hfz15_2
         try clear hfz15_3
         try clear hfz22_0
         try clear hfz22_1
         try clear hfz22_2
         try clear hfz22_3
         try clear hfz24_0
         try clear hfz24_1
         try clear hfz24_2
         try clear hfz24_3
         try clear hfz30_0
         try clear hfz30_1
         try clear hfz30_2
         try clear hfz30_3
         try clear hfz31_0
         try clear hfz31_1
         try clear hfz31_2
         try clear hfz31_3
         try clear hfz33_0
         try clear hfz33_1
         try clear hfz33_2
         try clear hfz33_3
         try clear hfz35_0
         try clear hfz35_1
         try clear hfz35_2
         try clear hfz35_3
         try clear hx281_0
         try clear hx281_1
         try clear hx282_0
         try clear hx282_1
         try clear hx283_0
         try clear hx283_1
         try clear hx284_0
         try clear hx284_1
         try clear hx285_0
         try clear hx287_0
         try clear hx287_1
         try clear hx288_0
         try clear hx288_1
         try clear hx289_0
         try clear hx289_1
         try clear hx290_0
         try clear hx290_1
         try clear hx291_0
         try clear hx46_0
         try clear hx59_0
         try clear p2
         try clear p28
         try clear p281
         try clear p282
         try clear p283
         try clear p284
         try clear p285
         try clear p287
         try clear p288
         try clear p289
         try clear p290
         try clear p291
         try clear p4
         try clear p46
         try clear p59
         try clear p6
         try clear q2
         try clear q28
         try clear q281
         try clear q282
         try clear q283
         try clear q284
         try clear q285
         try clear q287
         try clear q288
         try clear q289
         try clear q290
         try clear q291
         try clear q4
         try clear q46
         try clear q59
         obtain ⟨x17_3, rfl, HA, HK3, HO_13, HO_261000, HO_261001, HO_261002, HO_261003, HO_262000, HO_262001, HO_262002, HO_262003, BK247, BK260, BK261, HB⟩ := hrel
         cases gk with
         | zero => exact absurd HA.out (by simp [foretellkeep_BeginApart.l2])
         | succ k3 =>
          have H := HA.out
          clear HA
          simp only [foretellkeep_BeginApart.l2] at H
          by_cases c65 : x17_3 < 8
          ·
           rw [if_pos c65] at H
           have c65b0 : decide (x17_3 < 8) = true := decide_eq_true c65
           clear c65
           by_cases c66 : x17_3 < (wrap64 ((t268.length : Int) + (t272.length : Int)))
           ·
            rw [if_pos c66] at H
            have c66b0 : decide (x17_3 < (wrap64 ((t268.length : Int) + (t272.length : Int)))) = true := decide_eq_true c66
            clear c66
            by_cases c67 : 0 ≤ x17_3
            ·
             rw [if_pos c67] at H
             have c67b0 : decide (0 ≤ x17_3) = true := decide_eq_true c67
             clear c67
             by_cases c68 : x17_3 < (x13_2.length : Int)
             ·
              rw [if_pos c68] at H
              have c68b0 : decide (x17_3 < (x13_2.length : Int)) = true := decide_eq_true c68
              clear c68
              by_cases c69 : (rd x13_2 x17_3) = 1
              ·
               rw [if_pos c69] at H
               have c69b0 : ((rd x13_2 x17_3) == 1) = true := beq_iff_eq.mpr c69
               have c69b1 : ((rd x13_2 x17_3) != 1) = false := bne_eq_false_iff_eq.mpr c69
               clear c69
               by_cases c70 : x17_3 ≥ (wrap64 ((t268.length : Int) + (t272.length : Int)))
               ·
                rw [if_pos c70] at H
                have c70b0 : decide ((wrap64 ((t268.length : Int) + (t272.length : Int))) ≤ x17_3) = true := decide_eq_true c70
                clear c70
                by_cases c71 : (rd x13_2 x17_3) = 0
                ·
                 rw [if_pos c71] at H
                 have c71b0 : ((rd x13_2 x17_3) == 0) = true := beq_iff_eq.mpr c71
                 have c71b1 : ((rd x13_2 x17_3) != 0) = false := bne_eq_false_iff_eq.mpr c71
                 clear c71
                 have H' := Aside0.mk H
                 clear H
                 obtain ⟨Ao72, co72, eo72⟩ := Kd.R_slice HO_13.out
                 subst eo72
                 have p293 : 0 ≤ (x17_3 : Int) := of_decide_eq_true (by first | (with_reducible assumption) | assumption)
                 have q293 : x17_3 < (x13_2.length : Int) := of_decide_eq_true (by first | (with_reducible assumption) | assumption)
                 obtain ⟨ad293, e293, hx293_0⟩ := Kd.at_int (Kd.R_reads' HO_13.out).2.2 x17_3 p293 q293
                 cases e293
                 replace p293 := eq_true p293
                 replace q293 := eq_true q293
                 have p294 : 0 ≤ (x17_3 : Int) := of_decide_eq_true (by first | (with_reducible assumption) | assumption)
                 have q294 : x17_3 < (x13_2.length : Int) := of_decide_eq_true (by first | (with_reducible assumption) | assumption)
                 obtain ⟨ad294, e294, hx294_0⟩ := Kd.at_int (Kd.R_reads' HO_13.out).2.2 x17_3 p294 q294
                 obtain rfl : ad293 = ad294 := (by injection e294)
                 replace p294 := eq_true p294
                 replace q294 := eq_true q294
                 go_wp2
                 go_roundg k3
                 case measure => have := HK1.out; have := HK2.out; have := HK3.out; omega
                 case rel => exact ⟨(wrap64 (x17_3 + 1)), (by first | rfl | (simp; done) | (simp [*]; done)), H', ⟨by have := HK1.out; have := HK2.out; have := HK3.out; omega⟩, ⟨by (with_reducible repeat (first | apply Kd.R_alloc | apply Kd.R_drewN | apply Kd.R_drew)); exact HO_13.out⟩, ⟨by (with_reducible repeat (first | apply Kd.V_alloc | apply Kd.V_drewN | apply Kd.V_drew)); exact HO_261000.out⟩, ⟨by (with_reducible repeat (first | apply Kd.N_alloc | apply Kd.N_drewN | apply Kd.N_drew)); exact HO_261001.out⟩, ⟨by (with_reducible repeat (first | apply Kd.N_alloc | apply Kd.N_drewN | apply Kd.N_drew)); exact HO_261002.out⟩, ⟨by (with_reducible repeat (first | apply Kd.V_alloc | apply Kd.V_drewN | apply Kd.V_drew)); exact HO_261003.out⟩, ⟨by (with_reducible repeat (first | apply Kd.V_alloc | apply Kd.V_drewN | apply Kd.V_drew)); exact HO_262000.out⟩, ⟨by (with_reducible repeat (first | apply Kd.N_alloc | apply Kd.N_drewN | apply Kd.N_drew)); exact HO_262001.out⟩, ⟨by (with_reducible repeat (first | apply Kd.N_alloc | apply Kd.N_drewN | apply Kd.N_drew)); exact HO_262002.out⟩, ⟨by (with_reducible repeat (first | apply Kd.V_alloc | apply Kd.V_drewN | apply Kd.V_drew)); exact HO_262003.out⟩, ⟨by (with_reducible repeat (first | refine blk_drewN ?_ _ | refine blk_drew ?_ | refine blk_alloc ?_ _)); exact BK247.out⟩, ⟨by (with_reducible repeat (first | refine blk_drewN ?_ _ | refine blk_drew ?_ | refine blk_alloc ?_ _)); exact BK260.out⟩, ⟨by (with_reducible repeat (first | refine blk_drewN ?_ _ | refine blk_drew ?_ | refine blk_alloc ?_ _)); exact BK261.out⟩, ⟨bQ3 GE247.out GE260.out GE261.out⟩⟩
                ·
                 rw [if_neg c71] at H
                 exact absurd ((Option.some.inj H).trans hr_.out) (by decide)
               ·
                rw [if_neg c70] at H
                have c70b0 : decide ((wrap64 ((t268.length : Int) + (t272.length : Int))) ≤ x17_3) = false := decide_eq_false c70
                clear c70
                have H' := Aside0.mk H
                clear H
                obtain ⟨Ao73, co73, eo73⟩ := Kd.R_slice HO_13.out
                subst eo73
                have p293 : 0 ≤ (x17_3 : Int) := of_decide_eq_true (by first | (with_reducible assumption) | assumption)
                have q293 : x17_3 < (x13_2.length : Int) := of_decide_eq_true (by first | (with_reducible assumption) | assumption)
                obtain ⟨ad293, e293, hx293_0⟩ := Kd.at_int (Kd.R_reads' HO_13.out).2.2 x17_3 p293 q293
                cases e293
                replace p293 := eq_true p293
                replace q293 := eq_true q293
                go_wp2
                go_roundg k3
                case measure => have := HK1.out; have := HK2.out; have := HK3.out; omega
                case rel => exact ⟨(wrap64 (x17_3 + 1)), (by first | rfl | (simp; done) | (simp [*]; done)), H', ⟨by have := HK1.out; have := HK2.out; have := HK3.out; omega⟩, ⟨by (with_reducible repeat (first | apply Kd.R_alloc | apply Kd.R_drewN | apply Kd.R_drew)); exact HO_13.out⟩, ⟨by (with_reducible repeat (first | apply Kd.V_alloc | apply Kd.V_drewN | apply Kd.V_drew)); exact HO_261000.out⟩, ⟨by (with_reducible repeat (first | apply Kd.N_alloc | apply Kd.N_drewN | apply Kd.N_drew)); exact HO_261001.out⟩, ⟨by (with_reducible repeat (first | apply Kd.N_alloc | apply Kd.N_drewN | apply Kd.N_drew)); exact HO_261002.out⟩, ⟨by (with_reducible repeat (first | apply Kd.V_alloc | apply Kd.V_drewN | apply Kd.V_drew)); exact HO_261003.out⟩, ⟨by (with_reducible repeat (first | apply Kd.V_alloc | apply Kd.V_drewN | apply Kd.V_drew)); exact HO_262000.out⟩, ⟨by (with_reducible repeat (first | apply Kd.N_alloc | apply Kd.N_drewN | apply Kd.N_drew)); exact HO_262001.out⟩, ⟨by (with_reducible repeat (first | apply Kd.N_alloc | apply Kd.N_drewN | apply Kd.N_drew)); exact HO_262002.out⟩, ⟨by (with_reducible repeat (first | apply Kd.V_alloc | apply Kd.V_drewN | apply Kd.V_drew)); exact HO_262003.out⟩, ⟨by (with_reducible repeat (first | refine blk_drewN ?_ _ | refine blk_drew ?_ | refine blk_alloc ?_ _)); exact BK247.out⟩, ⟨by (with_reducible repeat (first | refine blk_drewN ?_ _ | refine blk_drew ?_ | refine blk_alloc ?_ _)); exact BK260.out⟩, ⟨by (with_reducible repeat (first | refine blk_drewN ?_ _ | refine blk_drew ?_ | refine blk_alloc ?_ _)); exact BK261.out⟩, ⟨bQ3 GE247.out GE260.out GE261.out⟩⟩
              ·
               rw [if_neg c69] at H
               exact absurd ((Option.some.inj H).trans hr_.out) (by decide)
             ·
              rw [if_neg c68] at H
              exact absurd H (by simp)
            ·
             rw [if_neg c67] at H
             exact absurd H (by simp)
           ·
            rw [if_neg c66] at H
            have c66b0 : decide (x17_3 < (wrap64 ((t268.length : Int) + (t272.length : Int)))) = false := decide_eq_false c66
            clear c66
            by_cases c74 : x17_3 ≥ (wrap64 ((t268.length : Int) + (t272.length : Int)))
            ·
             rw [if_pos c74] at H
             have c74b0 : decide ((wrap64 ((t268.length : Int) + (t272.length : Int))) ≤ x17_3) = true := decide_eq_true c74
             clear c74
             by_cases c75 : 0 ≤ x17_3
             ·
              rw [if_pos c75] at H
              have c75b0 : decide (0 ≤ x17_3) = true := decide_eq_true c75
              clear c75
              by_cases c76 : x17_3 < (x13_2.length : Int)
              ·
               rw [if_pos c76] at H
               have c76b0 : decide (x17_3 < (x13_2.length : Int)) = true := decide_eq_true c76
               clear c76
               by_cases c77 : (rd x13_2 x17_3) = 0
               ·
                rw [if_pos c77] at H
                have c77b0 : ((rd x13_2 x17_3) == 0) = true := beq_iff_eq.mpr c77
                have c77b1 : ((rd x13_2 x17_3) != 0) = false := bne_eq_false_iff_eq.mpr c77
                clear c77
                have H' := Aside0.mk H
                clear H
                obtain ⟨Ao78, co78, eo78⟩ := Kd.R_slice HO_13.out
                subst eo78
                have p295 : 0 ≤ (x17_3 : Int) := of_decide_eq_true (by first | (with_reducible assumption) | assumption)
                have q295 : x17_3 < (x13_2.length : Int) := of_decide_eq_true (by first | (with_reducible assumption) | assumption)
                obtain ⟨ad295, e295, hx295_0⟩ := Kd.at_int (Kd.R_reads' HO_13.out).2.2 x17_3 p295 q295
                cases e295
                replace p295 := eq_true p295
                replace q295 := eq_true q295
                go_wp2
                go_roundg k3
                case measure => have := HK1.out; have := HK2.out; have := HK3.out; omega
                case rel => exact ⟨(wrap64 (x17_3 + 1)), (by first | rfl | (simp; done) | (simp [*]; done)), H', ⟨by have := HK1.out; have := HK2.out; have := HK3.out; omega⟩, ⟨by (with_reducible repeat (first | apply Kd.R_alloc | apply Kd.R_drewN | apply Kd.R_drew)); exact HO_13.out⟩, ⟨by (with_reducible repeat (first | apply Kd.V_alloc | apply Kd.V_drewN | apply Kd.V_drew)); exact HO_261000.out⟩, ⟨by (with_reducible repeat (first | apply Kd.N_alloc | apply Kd.N_drewN | apply Kd.N_drew)); exact HO_261001.out⟩, ⟨by (with_reducible repeat (first | apply Kd.N_alloc | apply Kd.N_drewN | apply Kd.N_drew)); exact HO_261002.out⟩, ⟨by (with_reducible repeat (first | apply Kd.V_alloc | apply Kd.V_drewN | apply Kd.V_drew)); exact HO_261003.out⟩, ⟨by (with_reducible repeat (first | apply Kd.V_alloc | apply Kd.V_drewN | apply Kd.V_drew)); exact HO_262000.out⟩, ⟨by (with_reducible repeat (first | apply Kd.N_alloc | apply Kd.N_drewN | apply Kd.N_drew)); exact HO_262001.out⟩, ⟨by (with_reducible repeat (first | apply Kd.N_alloc | apply Kd.N_drewN | apply Kd.N_drew)); exact HO_262002.out⟩, ⟨by (with_reducible repeat (first | apply Kd.V_alloc | apply Kd.V_drewN | apply Kd.V_drew)); exact HO_262003.out⟩, ⟨by (with_reducible repeat (first | refine blk_drewN ?_ _ | refine blk_drew ?_ | refine blk_alloc ?_ _)); exact BK247.out⟩, ⟨by (with_reducible repeat (first | refine blk_drewN ?_ _ | refine blk_drew ?_ | refine blk_alloc ?_ _)); exact BK260.out⟩, ⟨by (with_reducible repeat (first | refine blk_drewN ?_ _ | refine blk_drew ?_ | refine blk_alloc ?_ _)); exact BK261.out⟩, ⟨bQ3 GE247.out GE260.out GE261.out⟩⟩
               ·
                rw [if_neg c77] at H
                exact absurd ((Option.some.inj H).trans hr_.out) (by decide)
              ·
               rw [if_neg c76] at H
               exact absurd H (by simp)
             ·
              rw [if_neg c75] at H
              exact absurd H (by simp)
            ·
             rw [if_neg c74] at H
             have c74b0 : decide ((wrap64 ((t268.length : Int) + (t272.length : Int))) ≤ x17_3) = false := decide_eq_false c74
             clear c74
             have H' := Aside0.mk H
             clear H
             go_wp2
             go_roundg k3
             case measure => have := HK1.out; have := HK2.out; have := HK3.out; omega
             case rel => exact ⟨(wrap64 (x17_3 + 1)), (by first | rfl | (simp; done) | (simp [*]; done)), H', ⟨by have := HK1.out; have := HK2.out; have := HK3.out; omega⟩, ⟨by (with_reducible repeat (first | apply Kd.R_alloc | apply Kd.R_drewN | apply Kd.R_drew)); exact HO_13.out⟩, ⟨by (with_reducible repeat (first | apply Kd.V_alloc | apply Kd.V_drewN | apply Kd.V_drew)); exact HO_261000.out⟩, ⟨by (with_reducible repeat (first | apply Kd.N_alloc | apply Kd.N_drewN | apply Kd.N_drew)); exact HO_261001.out⟩, ⟨by (with_reducible repeat (first | apply Kd.N_alloc | apply Kd.N_drewN | apply Kd.N_drew)); exact HO_261002.out⟩, ⟨by (with_reducible repeat (first | apply Kd.V_alloc | apply Kd.V_drewN | apply Kd.V_drew)); exact HO_261003.out⟩, ⟨by (with_reducible repeat (first | apply Kd.V_alloc | apply Kd.V_drewN | apply Kd.V_drew)); exact HO_262000.out⟩, ⟨by (with_reducible repeat (first | apply Kd.N_alloc | apply Kd.N_drewN | apply Kd.N_drew)); exact HO_262001.out⟩, ⟨by (with_reducible repeat (first | apply Kd.N_alloc | apply Kd.N_drewN | apply Kd.N_drew)); exact HO_262002.out⟩, ⟨by (with_reducible repeat (first | apply Kd.V_alloc | apply Kd.V_drewN | apply Kd.V_drew)); exact HO_262003.out⟩, ⟨by (with_reducible repeat (first | refine blk_drewN ?_ _ | refine blk_drew ?_ | refine blk_alloc ?_ _)); exact BK247.out⟩, ⟨by (with_reducible repeat (first | refine blk_drewN ?_ _ | refine blk_drew ?_ | refine blk_alloc ?_ _)); exact BK260.out⟩, ⟨by (with_reducible repeat (first | refine blk_drewN ?_ _ | refine blk_drew ?_ | refine blk_alloc ?_ _)); exact BK261.out⟩, ⟨bQ3 GE247.out GE260.out GE261.out⟩⟩
          ·
           rw [if_neg c65] at H
           have c65b0 : decide (x17_3 < 8) = false := decide_eq_false c65
           clear c65
           by_cases c79 : t271 = 0
           ·
            rw [if_pos c79] at H
            have c79b0 : (t271 == 0) = true := beq_iff_eq.mpr c79
            have c79b1 : (t271 != 0) = false := bne_eq_false_iff_eq.mpr c79
            clear c79
            by_cases c80 : t275 = 0
            ·
             rw [if_pos c80] at H
             have c80b0 : (t275 == 0) = true := beq_iff_eq.mpr c80
             have c80b1 : (t275 != 0) = false := bne_eq_false_iff_eq.mpr c80
             clear c80
             by_cases c81 : t277 = 0
             ·
              rw [if_pos c81] at H
              have c81b0 : (t277 == 0) = true := beq_iff_eq.mpr c81
              have c81b1 : (t277 != 0) = false := bne_eq_false_iff_eq.mpr c81
              clear c81
              by_cases c82 : (wrap64 ((t268.length : Int) + (t272.length : Int))) = 1
              ·
               rw [if_pos c82] at H
               have c82b0 : ((wrap64 ((t268.length : Int) + (t272.length : Int))) == 1) = true := beq_iff_eq.mpr c82
               have c82b1 : ((wrap64 ((t268.length : Int) + (t272.length : Int))) != 1) = false := bne_eq_false_iff_eq.mpr c82
               clear c82
               obtain rfl := Option.some.inj H
               go_wp2
               go_ret
               exact ⟨by first | rfl | (simp [errW_none, errW_some] <;> rfl) | (simp [*, errW_none, errW_some] <;> rfl), bQ3 GE247.out GE260.out GE261.out⟩
              ·
               rw [if_neg c82] at H
               have c82b0 : ((wrap64 ((t268.length : Int) + (t272.length : Int))) == 1) = false := beq_eq_false_iff_ne.mpr c82
               have c82b1 : ((wrap64 ((t268.length : Int) + (t272.length : Int))) != 1) = true := bne_iff_ne.mpr c82
               by_cases c83 : (wrap64 ((t268.length : Int) + (t272.length : Int))) = 2
               ·
                rw [if_pos c83] at H
                have c83b0 : ((wrap64 ((t268.length : Int) + (t272.length : Int))) == 2) = true := beq_iff_eq.mpr c83
                have c83b1 : ((wrap64 ((t268.length : Int) + (t272.length : Int))) != 2) = false := bne_eq_false_iff_eq.mpr c83
                clear c83
                obtain rfl := Option.some.inj H
                go_wp2
                go_ret
                exact ⟨by first | rfl | (simp [errW_none, errW_some] <;> rfl) | (simp [*, errW_none, errW_some] <;> rfl), bQ3 GE247.out GE260.out GE261.out⟩
               ·
                rw [if_neg c83] at H
                have c83b0 : ((wrap64 ((t268.length : Int) + (t272.length : Int))) == 2) = false := beq_eq_false_iff_ne.mpr c83
                have c83b1 : ((wrap64 ((t268.length : Int) + (t272.length : Int))) != 2) = true := bne_iff_ne.mpr c83
                by_cases c84 : (wrap64 ((t268.length : Int) + (t272.length : Int))) = 4
                ·
                 rw [if_pos c84] at H
                 have c84b0 : ((wrap64 ((t268.length : Int) + (t272.length : Int))) == 4) = true := beq_iff_eq.mpr c84
                 have c84b1 : ((wrap64 ((t268.length : Int) + (t272.length : Int))) != 4) = false := bne_eq_false_iff_eq.mpr c84
                 clear c84
                 obtain rfl := Option.some.inj H
                 go_wp2
                 go_ret
                 exact ⟨by first | rfl | (simp [errW_none, errW_some] <;> rfl) | (simp [*, errW_none, errW_some] <;> rfl), bQ3 GE247.out GE260.out GE261.out⟩
                ·
                 rw [if_neg c84] at H
                 have c84b0 : ((wrap64 ((t268.length : Int) + (t272.length : Int))) == 4) = false := beq_eq_false_iff_ne.mpr c84
                 have c84b1 : ((wrap64 ((t268.length : Int) + (t272.length : Int))) != 4) = true := bne_iff_ne.mpr c84
                 obtain rfl := Option.some.inj H
                 go_wp2
                 go_ret
                 exact ⟨by first | rfl | (simp [errW_none, errW_some] <;> rfl) | (simp [*, errW_none, errW_some] <;> rfl), bQ3 GE247.out GE260.out GE261.out⟩
             ·
              rw [if_neg c81] at H
              exact absurd ((Option.some.inj H).trans hr_.out) (by decide)
            ·
             rw [if_neg c80] at H
             exact absurd ((Option.some.inj H).trans hr_.out) (by decide)
           ·
            rw [if_neg c79] at H
            exact absurd ((Option.some.inj H).trans hr_.out) (by decide)
 ·
  rw [if_neg c8] at H
  exact absurd H (by simp)

end Go.Proofs.YtbokbbcoekeoaaaDoor.P
end
