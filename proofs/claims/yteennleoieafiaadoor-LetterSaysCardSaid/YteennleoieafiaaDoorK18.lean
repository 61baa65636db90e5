-- PACKED by pack.py of this repo: FMachPop FEvalCatch FForetellkeepProps
import Derived.WalkSpells
import Derived.WalkLawsBesides
import Derived.Recover
import Derived.Test.YteennleoieafiaaDoorK1
import Derived.Test.YteennleoieafiaaDoorK4
section
namespace Go.Proofs.YteennleoieafiaaDoor.P
open Go.RowKit Go.Proofs.YteennleoieafiaaDoorW.PrintWords Go.Proofs.YteennleoieafiaaDoorW.PrintLast Go.Proofs.YteennleoieafiaaDoorW.PrintMore Go.Proofs.YteennleoieafiaaDoor.G
attribute [local go_sem] max2_int min2_int max_two min_two max_three min_three max_four min_four   -- for this text's walks alone
set_option linter.unusedVariables false
set_option linter.unusedSimpArgs false

--IMPORT Derived.WalkSpells
/-! ### mach_pop: function 45 -/
/-- A machine in memory. -/
def MachAt (w0 w : World) (g : Nat) (A : Option Addr) (n c : Nat) (st : List Int) : Prop :=
  ∃ vs, w.heap[g]? = some (.cells #[vs, .slice A n c] 90 (0, 0)) ∧ Kd.R (Kd.int .i64) 3 w w0.heap.size (fun _ => True) vs st ∧ Below w0.heap.size w0 w
theorem MachAt.drewN {w0 w : World} {g : Nat} {A : Option Addr} {n c : Nat} {st : List Int} (h : MachAt w0 w g A n c st) (m : Nat) : MachAt w0 (w.drewN m) g A n c st := by
  obtain ⟨ve, h1, h2, h3⟩ := h
  exact ⟨ve, h1, Kd.R_drewN h2 m, pw_below_drewN h3 m⟩
theorem MachAt.below {w0 w w' : World} {g : Nat} {A : Option Addr} {n c : Nat} {st : List Int} (h : MachAt w0 w g A n c st) (hb : Below w.heap.size w w') : MachAt w0 w' g A n c st := by
  obtain ⟨ve, h1, h2, h3⟩ := h
  exact ⟨ve, blk_below h1 hb, Kd.R_below h2 hb, below_step h3 hb⟩
theorem MachAt.lt {w0 w : World} {g : Nat} {A : Option Addr} {n c : Nat} {st : List Int} (h : MachAt w0 w g A n c st) : g < w.heap.size := by
  obtain ⟨_, h, _, _⟩ := h
  exact blk_lt h
theorem MachAt.size {w0 w : World} {g : Nat} {A : Option Addr} {n c : Nat} {st : List Int} (h : MachAt w0 w g A n c st) : w0.heap.size ≤ w.heap.size := by
  obtain ⟨_, _, _, h⟩ := h
  exact below_size h
theorem MachAt.parts {w0 w : World} {g : Nat} {A : Option Addr} {n c : Nat} {st : List Int} (h : MachAt w0 w g A n c st.reverse) :
    ∃ A6 c6, w.heap[g]? = some (.cells #[.slice A6 st.length c6, .slice A n c] 90 (0, 0)) ∧ Kd.R (Kd.int .i64) 3 w w0.heap.size (fun _ => True) (.slice A6 st.length c6) st.reverse ∧ Below w0.heap.size w0 w := by
  obtain ⟨vs, h1, h2, h3⟩ := h
  obtain ⟨A6, c6, rfl⟩ := Kd.R_slice h2
  rw [List.length_reverse] at h1 h2
  exact ⟨A6, c6, h1, h2, h3⟩
set_option maxHeartbeats 8000000 in
set_option maxRecDepth 100000 in
theorem mach_pop.calls (w0 : World) (A : Option Addr) (n c : Nat) (g : Nat) (bg : w0.heap.size ≤ g) (ys : List Int) (y : Int) (w : World) (hv : MachAt w0 w g A n c (ys ++ [y])) :
    Calls Tryd.prog 45 #[.pointer (some ⟨g, 0, none⟩)] w fun e w' => e = .returned (.int .i64 y) ∧ MachAt w0 w' g A n c ys ∧ w.heap.size ≤ w'.heap.size ∧ ∀ b, b ≠ g → w'.heap[b]? = w.heap[b]? := by
  have info := (by kernel_rfl : (Tryd.prog.info? 3).map (fun i => (i.zero, i.size, i.bytes)) = some (some (.int .i64 0), 1, 8))
  have BG := Aside0.mk bg
  clear bg
  obtain ⟨vs, hbk, hro, hb⟩ := hv
  have BK := Aside0.mk hbk
  have HB := Aside0.mk hb
  clear hbk hb
  obtain ⟨A6, cp6, rfl⟩ := Kd.R_slice hro
  have hlen : (ys ++ [y]).length = ys.length + 1 := by simp
  replace BK : Aside0 (w.heap[g]? = some (.cells #[.slice A6 (ys.length + 1) cp6, .slice A n c] 90 (0, 0))) := ⟨by rw [← hlen]; exact BK.out⟩
  replace hro : Kd.R (Kd.int .i64) 3 w w0.heap.size (fun _ => True) (.slice A6 (ys.length + 1) cp6) (ys ++ [y]) := by rw [← hlen]; exact hro
  have P6 := Aside0.mk hro
  clear hro hlen
  obtain ⟨gt, cap6, he6, _, _, cgt, hgt⟩ := Kd.R_form P6.out (by simp)
  have HGT := Aside0.mk hgt
  have N6t : g ≠ gt := blk_ne BK.out hgt (by decide)
  have Nt6 := N6t.symm
  clear hgt
  have hAe : A6 = some ⟨gt, 0, none⟩ := by injection he6
  subst hAe
  clear he6
  obtain ⟨hct, hft⟩ := Kd.R_celln (0 : Int) P6.out (ys.length : Int) (by omega) (by omega)
  have hrd : rdOf (0 : Int) (ys ++ [y]) (ys.length : Int) = y := by simp [rdOf]
  rw [hrd, Int.toNat_natCast] at hct
  clear hrd hft
  obtain ⟨i0, hi0, _, hsz, _⟩ := info_parts info
  have hcut := cut_to (P := Tryd.prog) 48 3 .i64 Tryd.underlying48 hi0 (some ⟨gt, 0, none⟩) (ys.length + 1) cp6 (ys.length : Int) (by omega) (by omega) (Kd.R_reads' P6.out).2.1
  rw [Int.toNat_natCast] at hcut
  clear hi0 hsz
  have hc6 : w.cell? ⟨g, 0, none⟩ = some (.slice (some ⟨gt, 0, none⟩) (ys.length + 1) cp6) := (blk_cell BK.out 0).trans rfl
  have hf6 := blk_frozen BK.out 0
  have hmx : ys.length + 1 ≤ 9223372036854775807 := by have h_ := (Kd.R_reads' P6.out).2.2.2.1; rw [List.length_append] at h_; exact h_
  go_enter Tryd.func45, Tryd.ntmps45
  go_wp2
  go_quiet (fail)
  generalize hq : World.drewN w _ = w1
  have K1 := Aside0.mk (blk_at hq BK.out)
  have P1 := Aside0.mk (Kd.R_at hq P6.out)
  have H1 := Aside0.mk (below_at hq HB.out)
  have E1 := Aside0.mk (show w1.heap = w.heap by rw [← hq]; rfl)
  clear hq hc6 hf6 hct
  have hc7 : w1.cell? ⟨g, 0, none⟩ = some (.slice (some ⟨gt, 0, none⟩) (ys.length + 1) cp6) := (blk_cell K1.out 0).trans rfl
  have hf7 := blk_frozen K1.out 0
  go_wp2
  go_region
  have tk := Kd.R_take (m := ys.length) P1.out (by simp)
  rw [List.take_left' rfl] at tk
  have HV := Aside0.mk (show MachAt w0 ((w1.setCell ⟨g, 0, none⟩ (.slice (some ⟨gt, 0, none⟩) ys.length cp6)).drew) g A n c ys from ⟨_, blk_put K1.out 0 _ rfl, Kd.R_drew (Kd.R_set tk K1.out (by decide) _ _), (H1.out.setCell BG.out _).drew⟩)
  clear tk
  go_wp2
  go_ret
  exact ⟨rfl, HV.out, (by simp [World.drew, E1.out]), fun b hb => (Below.heap_setCell w1 ⟨g, 0, none⟩ _ b hb).trans (by rw [E1.out])⟩

end Go.Proofs.YteennleoieafiaaDoor.P
end
section
namespace Go.Proofs.YteennleoieafiaaDoor.P
open Go.RowKit Go.Proofs.YteennleoieafiaaDoorW.PrintWords Go.Proofs.YteennleoieafiaaDoorW.PrintLast Go.Proofs.YteennleoieafiaaDoorW.PrintMore Go.Proofs.YteennleoieafiaaDoor.G
attribute [local go_sem] max2_int min2_int max_two min_two max_three min_three max_four min_four   -- for this text's walks alone
set_option linter.unusedVariables false
set_option linter.unusedSimpArgs false

--IMPORT Derived.WalkSpells
--IMPORT Derived.WalkLawsBesides
--IMPORT Derived.Recover
/-! ### eval_catch: function 43 -/
set_option maxRecDepth 100000 in
theorem eval_catch.panicking (g2 g3 : Nat) (v2 v3 : Value) (n : Int) (w : World) (h2 : w.heap[g2]? = some (.cells #[v2] 3 (0, 0))) (h3 : w.heap[g3]? = some (.cells #[v3] 43 (0, 0))) (hne : g2 ≠ g3) :
    CallsD Tryd.prog 43 #[.pointer (some ⟨g2, 0, none⟩), .pointer (some ⟨g3, 0, none⟩)] (.panicking [{ v := .iface 43 (.int .i64 n), recovered := false }]) w fun e u' w' =>
      e = .returned (.tuple #[]) ∧ u' = .panicking [{ v := .iface 43 (.int .i64 n), recovered := true }] ∧ w'.heap[g2]? = some (.cells #[.int .i64 0] 3 (0, 0)) ∧ w'.heap[g3]? = some (.cells #[.int .i64 n] 43 (0, 0)) ∧ ∀ b, b ≤ g2 → b ≤ g3 → Below b w w' := by
  have hc2 : w.cell? ⟨g2, 0, none⟩ = some v2 := (blk_cell h2 0).trans rfl
  have hc3 : w.cell? ⟨g3, 0, none⟩ = some v3 := (blk_cell h3 0).trans rfl
  have hz2 := blk_frozen h2 0
  have hz3 := blk_frozen h3 0
  have hn3 : g3 ≠ g2 := hne.symm
  have B2 := Aside0.mk h2
  have B3 := Aside0.mk h3
  clear h2 h3
  refine callsD_of_wpS Tryd.func43 rfl fun c₀ cs hu => ?_
  apply wpS_seq
  apply wpS_region
  simp [wpOpsS, go_sem, recoverD, hu, Tryd.ntmps43, Exit.thenS]
  apply wpS_seq
  apply wpS_region
  simp [wpOpsS, go_sem, recoverD, hu, Tryd.ntmps43, Exit.thenS]
  refine wpS_cond (t := true) (by simp [Act.eval, Array.replicate]) ?_
  simp only [if_true]
  have hta : ∀ W : World, (Instr.typeAssert (.iface 43 (.int .i64 n)) 20 43 false).run Tryd.prog W = .ok (.int .i64 n) W := fun W => by rfl
  refine wpS_of_wp ?_
  go_region
  all_goals
    have b2 : w.drew.heap[g2]? = some (.cells #[v2] 3 (0, 0)) := B2.out
    have b3 : w.drew.heap[g3]? = some (.cells #[v3] 43 (0, 0)) := B3.out
    refine ⟨rfl, _, rfl, .tuple #[], by simp [results, Tryd.results43], rfl, rfl, ?_, ?_, fun b h2 h3 => ?_⟩
    · first
      | exact blk_far (p := ⟨g3, 0, none⟩) (blk_put b2 0 _ rfl) hne _
      | exact blk_put (blk_far (p := ⟨g3, 0, none⟩) b2 hne _) 0 _ rfl
    · first
      | exact blk_far (p := ⟨g2, 0, none⟩) (blk_put b3 0 _ rfl) hn3 _
      | exact blk_put (blk_far (p := ⟨g2, 0, none⟩) b3 hn3 _) 0 _ rfl
    · have b0 : Below b w w.drew := (Below.refl b w).drew
      first
      | exact (b0.setCell (p := ⟨g2, 0, none⟩) h2 _).setCell (p := ⟨g3, 0, none⟩) h3 _
      | exact (b0.setCell (p := ⟨g3, 0, none⟩) h3 _).setCell (p := ⟨g2, 0, none⟩) h2 _
theorem eval_catch.idle (p q : Addr) (w : World) :
    CallsD Tryd.prog 43 #[.pointer (some p), .pointer (some q)] .returning w fun e u' w' => e = .returned (.tuple #[]) ∧ u' = .returning ∧ w' = w := by
  refine callsD_of_wpS Tryd.func43 rfl fun c₀ cs hu => ?_
  apply wpS_seq
  apply wpS_region
  simp [wpOpsS, go_sem, recoverD, hu, Tryd.ntmps43, Exit.thenS]
  apply wpS_seq
  apply wpS_region
  simp [wpOpsS, go_sem, recoverD, hu, Tryd.ntmps43, Exit.thenS]
  refine wpS_cond (t := false) (by simp [Act.eval, Array.replicate]) ?_
  simp only [Bool.false_eq_true, if_false]
  refine wpS_of_wp (wp_skip ?_)
  cases c₀
  simp_all [bodyPostS, results, Tryd.results43]

end Go.Proofs.YteennleoieafiaaDoor.P
end
section
namespace Go.Proofs.YteennleoieafiaaDoor.P
open Go.RowKit Go.Proofs.YteennleoieafiaaDoorW.PrintWords Go.Proofs.YteennleoieafiaaDoorW.PrintLast Go.Proofs.YteennleoieafiaaDoorW.PrintMore Go.Proofs.YteennleoieafiaaDoor.G
attribute [local go_sem] max2_int min2_int max_two min_two max_three min_three max_four min_four   -- for this text's walks alone
set_option linter.unusedVariables false
set_option linter.unusedSimpArgs false

/-! ### foretellkeep_props: function 23 -/
--IMPORT FForetellkeepJoined
def foretellkeep_props.f (k : Nat)  : Option ((List (List (S35)))) :=
  (foretellkeep_joined.f k 7 [[(⟨2, 0⟩ : S35)], [(⟨1, 1⟩ : S35)]]).bind fun a => (foretellkeep_joined.f k 7 [[(⟨2, 0⟩ : S35)], [(⟨2, 1⟩ : S35)]]).bind fun b => (foretellkeep_joined.f k 6 [[(⟨2, 0⟩ : S35)], [(⟨2, 1⟩ : S35)]]).bind fun c => some [a, b, c]
theorem foretellkeep_props.mono : ∀ k, LeO (foretellkeep_props.f k ) (foretellkeep_props.f (k + 1) ) := by
  intro k
  unfold foretellkeep_props.f
  exact LeO.bind (foretellkeep_joined.mono _ _ _) (fun _ => LeO.bind (foretellkeep_joined.mono _ _ _) (fun _ => LeO.bind (foretellkeep_joined.mono _ _ _) (fun _ => LeO.refl _)))
theorem props_rows {w : World} {base : Nat} {o0 o1 o2 : Nat → Prop} {v0 v1 v2 : Value} {a b c : List S35} {okj : Nat → Nat → Prop} (h0 : Kd.R k35 35 w base o0 v0 a) (h1 : Kd.R k35 35 w base o1 v1 b) (h2 : Kd.R k35 35 w base o2 v2 c) (k0 : ∀ k, o0 k → okj 0 k) (k1 : ∀ k, o1 k → okj 1 k) (k2 : ∀ k, o2 k → okj 2 k) :
    ∀ j x, [a, b, c][j]? = some x → (Kd.slice 35 k35).M w base (okj j) x (([v0, v1, v2].drop (j * (Kd.slice 35 k35).sz)).take (Kd.slice 35 k35).sz) := by
  intro j x hx
  match j, hx with
  | 0, hx => obtain rfl := Option.some.inj hx; exact ⟨v0, rfl, Kd.R_mono h0 k0⟩
  | 1, hx => obtain rfl := Option.some.inj hx; exact ⟨v1, rfl, Kd.R_mono h1 k1⟩
  | 2, hx => obtain rfl := Option.some.inj hx; exact ⟨v2, rfl, Kd.R_mono h2 k2⟩
  | j + 3, hx => simp at hx
set_option maxHeartbeats 8000000 in
set_option maxRecDepth 100000 in
theorem foretellkeep_props.calls (k : Nat)  (r : List (List (S35))) (w : World) (h : foretellkeep_props.f k  = some r) :
    Calls Tryd.prog 23 #[] w fun e w' => ∃ v0_ : Value, e = .returned (v0_) ∧ Kd.S (Kd.slice 35 k35) 36 w' w.heap.size (fun _ => True) v0_ r ∧ Below w.heap.size w w' := by
  have hu35 := Tryd.underlying35
  unfold foretellkeep_props.f at h
  obtain ⟨a, ha, h2⟩ := Option.bind_eq_some_iff.mp h
  clear h
  obtain ⟨b, hb', h3⟩ := Option.bind_eq_some_iff.mp h2
  clear h2
  obtain ⟨c, hc', h4⟩ := Option.bind_eq_some_iff.mp h3
  clear h3
  obtain rfl := Option.some.inj h4
  clear h4
  have H0 := Aside0.mk (Below.refl w.heap.size w)
  have FA := Aside0.mk ha
  have FB := Aside0.mk hb'
  have FC := Aside0.mk hc'
  clear ha hb' hc'
  go_enter Tryd.func23, Tryd.ntmps23
  go_wp2_with (first | ((with_reducible refine gate_dst (N := 4) rfl ?_); (refine Kd.R_lit (k35) (w0 := w) w.heap.size 35 ?hg (N := 4) ?hd (xs := ([(⟨2, 0⟩ : S35)] : List (S35))) (inner := [.int .i64 2, .int .i64 0]) (ok := fun _ => True) (okp := fun _ => True) ?hr ?hp (fun _ hk => hk) trivial (H0.out) (below_size (H0.out)) (by simp) ?_; (case hd => rfl); (case hg => rfl); (case hr => first | (go_simp; done) | (go_simp; rfl)); (case hp => exact (Reps.c2 (show Kd.M k35 _ _ _ (⟨2, 0⟩ : S35) [.int .i64 2, .int .i64 0] from (k35_mkM _ _ _ (⟨2, 0⟩ : S35))) (Reps.none _ _))); intro v_ w1 ho hb hg hn; obtain ⟨A4, c4, rfl⟩ := Kd.R_slice ho; have hB : Below w.heap.size w w1 := (Below.refl w.heap.size w).grown hg (Nat.le_refl _) (fun k hk => by simp at hk); have Zw1 := Aside0.mk hB.size; have X1 := Aside0.mk ho; have H1 := Aside0.mk hb; clear ho hb hg hn hB)) | ((with_reducible refine gate_dst (N := 6) rfl ?_); (refine Kd.R_lit (k35) (w0 := w) w.heap.size 35 ?hg (N := 6) ?hd (xs := ([(⟨2, 1⟩ : S35)] : List (S35))) (inner := [.int .i64 2, .int .i64 1]) (ok := fun _ => True) (okp := fun _ => True) ?hr ?hp (fun _ hk => hk) trivial (H1.out) (below_size (H1.out)) (by simp) ?_; (case hd => rfl); (case hg => rfl); (case hr => first | (go_simp; done) | (go_simp; rfl)); (case hp => exact (Reps.c2 (show Kd.M k35 _ _ _ (⟨2, 1⟩ : S35) [.int .i64 2, .int .i64 1] from (k35_mkM _ _ _ (⟨2, 1⟩ : S35))) (Reps.none _ _))); intro v_ w2 ho hb hg hn; obtain ⟨A6, c6, rfl⟩ := Kd.R_slice ho; have hB : Below w1.heap.size w1 w2 := (Below.refl w1.heap.size w1).grown hg (Nat.le_refl _) (fun k hk => by simp at hk); have Zw2 := Aside0.mk hB.size; have Y2 := Aside0.mk ho; have H2 := Aside0.mk hb; have X2 := Aside0.mk (Kd.R_below X1.out hB); clear ho hb hg hn hB)) | ((with_reducible refine gate_dst (N := 9) rfl ?_); (refine Kd.R_lit (k35) (w0 := w) w.heap.size 35 ?hg (N := 9) ?hd (xs := ([(⟨1, 1⟩ : S35)] : List (S35))) (inner := [.int .i64 1, .int .i64 1]) (ok := fun _ => True) (okp := fun _ => True) ?hr ?hp (fun _ hk => hk) trivial (H2.out) (below_size (H2.out)) (by simp) ?_; (case hd => rfl); (case hg => rfl); (case hr => first | (go_simp; done) | (go_simp; rfl)); (case hp => exact (Reps.c2 (show Kd.M k35 _ _ _ (⟨1, 1⟩ : S35) [.int .i64 1, .int .i64 1] from (k35_mkM _ _ _ (⟨1, 1⟩ : S35))) (Reps.none _ _))); intro v_ w3 ho hb hg hn; obtain ⟨A9, c9, rfl⟩ := Kd.R_slice ho; have hB : Below w2.heap.size w2 w3 := (Below.refl w2.heap.size w2).grown hg (Nat.le_refl _) (fun k hk => by simp at hk); have Zw3 := Aside0.mk hB.size; have Z3 := Aside0.mk ho; have H3 := Aside0.mk hb; have X3 := Aside0.mk (Kd.R_below X2.out hB); have Y3 := Aside0.mk (Kd.R_below Y2.out hB); clear ho hb hg hn hB)) | ((with_reducible refine gate_dst (N := 10) rfl ?_); (refine Kd.R_lit (Kd.slice 35 k35) (w0 := w) w.heap.size 36 ?hg (N := 10) ?hd (xs := ([[(⟨2, 0⟩ : S35)], [(⟨1, 1⟩ : S35)]] : List (List (S35)))) (inner := [.slice A4 1 c4, .slice A9 1 c9]) (ok := fun _ => True) (okp := fun _ => True) ?hr ?hp (fun _ hk => hk) trivial (H3.out) (below_size (H3.out)) (by simp) ?_; (case hd => rfl); (case hg => rfl); (case hr => first | (go_simp; done) | (go_simp; rfl)); (case hp => exact (Reps.one (show Kd.M (Kd.slice 35 k35) _ _ _ ([(⟨2, 0⟩ : S35)] : List (S35)) [.slice A4 1 c4] from ⟨_, rfl, X3.out⟩) (Reps.one (show Kd.M (Kd.slice 35 k35) _ _ _ ([(⟨1, 1⟩ : S35)] : List (S35)) [.slice A9 1 c9] from ⟨_, rfl, Z3.out⟩) (Reps.none _ _)))); intro v_ w4 ho hb hg hn; obtain ⟨A10, c10, rfl⟩ := Kd.R_slice ho; have hB : Below w3.heap.size w3 w4 := (Below.refl w3.heap.size w3).grown hg (Nat.le_refl _) (fun k hk => by simp at hk); have Zw4 := Aside0.mk hB.size; have L4 := Aside0.mk ho; have H4 := Aside0.mk hb; have X4 := Aside0.mk (Kd.R_below X3.out hB); have Y4 := Aside0.mk (Kd.R_below Y3.out hB); clear ho hb hg hn hB)) | (go_at_call_of 34 (Value.slice A10 2 c10); (refine (foretellkeep_joined.calls k 7 A10 c10 [[(⟨2, 0⟩ : S35)], [(⟨1, 1⟩ : S35)]] a _ (Kd.R_reads' L4.out).2.2 (Kd.R_reads' L4.out).2.1 FA.out).mono ?_; rintro e w5 ⟨v_, rfl, ho, hB⟩; obtain ⟨A11, c11, rfl⟩ := Kd.R_slice ho; have H5 := Aside0.mk (below_step H4.out hB); have P5 := Aside0.mk (show Kd.R k35 35 w5 w.heap.size (fun k => w4.heap.size ≤ k ∧ k < w5.heap.size) (.slice A11 a.length c11) a from Kd.R_lower (Kd.R_mono (Kd.R_bound ho) (fun k hk => ⟨hk.2.1, hk.2.2.1⟩)) H4.out.size); have Zw5 := Aside0.mk hB.size; have X5 := Aside0.mk (Kd.R_below X4.out hB); have Y5 := Aside0.mk (Kd.R_below Y4.out hB); clear ho hB)) | ((with_reducible refine gate_dst (N := 14) rfl ?_); (refine Kd.R_lit (Kd.slice 35 k35) (w0 := w) w.heap.size 36 ?hg (N := 14) ?hd (xs := ([[(⟨2, 0⟩ : S35)], [(⟨2, 1⟩ : S35)]] : List (List (S35)))) (inner := [.slice A4 1 c4, .slice A6 1 c6]) (ok := fun _ => True) (okp := fun _ => True) ?hr ?hp (fun _ hk => hk) trivial (H5.out) (below_size (H5.out)) (by simp) ?_; (case hd => rfl); (case hg => rfl); (case hr => first | (go_simp; done) | (go_simp; rfl)); (case hp => exact (Reps.one (show Kd.M (Kd.slice 35 k35) _ _ _ ([(⟨2, 0⟩ : S35)] : List (S35)) [.slice A4 1 c4] from ⟨_, rfl, X5.out⟩) (Reps.one (show Kd.M (Kd.slice 35 k35) _ _ _ ([(⟨2, 1⟩ : S35)] : List (S35)) [.slice A6 1 c6] from ⟨_, rfl, Y5.out⟩) (Reps.none _ _)))); intro v_ w6 ho hb hg hn; obtain ⟨A14, c14, rfl⟩ := Kd.R_slice ho; have hB : Below w5.heap.size w5 w6 := (Below.refl w5.heap.size w5).grown hg (Nat.le_refl _) (fun k hk => by simp at hk); have Zw6 := Aside0.mk hB.size; have L6 := Aside0.mk ho; have H6 := Aside0.mk hb; have X6 := Aside0.mk (Kd.R_below X5.out hB); have Y6 := Aside0.mk (Kd.R_below Y5.out hB); have P6 := Aside0.mk (Kd.R_below P5.out hB); clear ho hb hg hn hB)) | (go_at_call_of 34 (Value.slice A14 2 c14); (refine (foretellkeep_joined.calls k 7 A14 c14 [[(⟨2, 0⟩ : S35)], [(⟨2, 1⟩ : S35)]] b _ (Kd.R_reads' L6.out).2.2 (Kd.R_reads' L6.out).2.1 FB.out).mono ?_; rintro e w7 ⟨v_, rfl, ho, hB⟩; obtain ⟨A15, c15, rfl⟩ := Kd.R_slice ho; have H7 := Aside0.mk (below_step H6.out hB); have Q7 := Aside0.mk (show Kd.R k35 35 w7 w.heap.size (fun k => w6.heap.size ≤ k ∧ k < w7.heap.size) (.slice A15 b.length c15) b from Kd.R_lower (Kd.R_mono (Kd.R_bound ho) (fun k hk => ⟨hk.2.1, hk.2.2.1⟩)) H6.out.size); have Zw7 := Aside0.mk hB.size; have X7 := Aside0.mk (Kd.R_below X6.out hB); have Y7 := Aside0.mk (Kd.R_below Y6.out hB); have P7 := Aside0.mk (Kd.R_below P6.out hB); clear ho hB)) | ((with_reducible refine gate_dst (N := 18) rfl ?_); (refine Kd.R_lit (Kd.slice 35 k35) (w0 := w) w.heap.size 36 ?hg (N := 18) ?hd (xs := ([[(⟨2, 0⟩ : S35)], [(⟨2, 1⟩ : S35)]] : List (List (S35)))) (inner := [.slice A4 1 c4, .slice A6 1 c6]) (ok := fun _ => True) (okp := fun _ => True) ?hr ?hp (fun _ hk => hk) trivial (H7.out) (below_size (H7.out)) (by simp) ?_; (case hd => rfl); (case hg => rfl); (case hr => first | (go_simp; done) | (go_simp; rfl)); (case hp => exact (Reps.one (show Kd.M (Kd.slice 35 k35) _ _ _ ([(⟨2, 0⟩ : S35)] : List (S35)) [.slice A4 1 c4] from ⟨_, rfl, X7.out⟩) (Reps.one (show Kd.M (Kd.slice 35 k35) _ _ _ ([(⟨2, 1⟩ : S35)] : List (S35)) [.slice A6 1 c6] from ⟨_, rfl, Y7.out⟩) (Reps.none _ _)))); intro v_ w8 ho hb hg hn; obtain ⟨A18, c18, rfl⟩ := Kd.R_slice ho; have hB : Below w7.heap.size w7 w8 := (Below.refl w7.heap.size w7).grown hg (Nat.le_refl _) (fun k hk => by simp at hk); have Zw8 := Aside0.mk hB.size; have L8 := Aside0.mk ho; have H8 := Aside0.mk hb; have P8 := Aside0.mk (Kd.R_below P7.out hB); have Q8 := Aside0.mk (Kd.R_below Q7.out hB); clear ho hb hg hn hB)) | (go_at_call_of 34 (Value.slice A18 2 c18); (refine (foretellkeep_joined.calls k 6 A18 c18 [[(⟨2, 0⟩ : S35)], [(⟨2, 1⟩ : S35)]] c _ (Kd.R_reads' L8.out).2.2 (Kd.R_reads' L8.out).2.1 FC.out).mono ?_; rintro e w9 ⟨v_, rfl, ho, hB⟩; obtain ⟨A19, c19, rfl⟩ := Kd.R_slice ho; have H9 := Aside0.mk (below_step H8.out hB); have S9 := Aside0.mk (show Kd.R k35 35 w9 w.heap.size (fun k => w8.heap.size ≤ k ∧ k < w9.heap.size) (.slice A19 c.length c19) c from Kd.R_lower (Kd.R_mono (Kd.R_bound ho) (fun k hk => ⟨hk.2.1, hk.2.2.1⟩)) H8.out.size); have Zw9 := Aside0.mk hB.size; have P9 := Aside0.mk (Kd.R_below P8.out hB); have Q9 := Aside0.mk (Kd.R_below Q8.out hB); clear ho hB)) | ((with_reducible refine gate_dst (N := 20) rfl ?_); (refine Kd.S_lits (Kd.slice 35 k35) (w0 := w) w.heap.size 36 ?hg (N := 20) ?hd (xs := [a, b, c]) (inner := [.slice A11 a.length c11, .slice A15 b.length c15, .slice A19 c.length c19]) (ok := fun _ => True) (fun j k => (j = 0 ∧ w4.heap.size ≤ k ∧ k < w5.heap.size) ∨ (j = 1 ∧ w6.heap.size ≤ k ∧ k < w7.heap.size) ∨ (j = 2 ∧ w8.heap.size ≤ k ∧ k < w9.heap.size)) ?hr ?hl ?hp ?ha (fun _ _ _ => trivial) trivial H9.out (below_size H9.out) (by simp) ?_; (case hd => rfl); (case hg => rfl); (case hr => first | (go_simp; done) | (go_simp; rfl)); (case hl => rfl); (case ha => (intro i j k h1 h2; have z6 := Zw6.out; have z7 := Zw7.out; have z8 := Zw8.out; omega)); (case hp => exact props_rows P9.out Q9.out S9.out (fun k hk => Or.inl ⟨rfl, hk⟩) (fun k hk => Or.inr (Or.inl ⟨rfl, hk⟩)) (fun k hk => Or.inr (Or.inr ⟨rfl, hk⟩))); intro v_ w10 ho hb hg hn; have L10 := Aside0.mk ho; have H10 := Aside0.mk hb; clear ho hb hg hn)))
  go_ret
  exact ⟨_, rfl, L10.out, H10.out⟩

end Go.Proofs.YteennleoieafiaaDoor.P
end
