-- a walk, laid out by a program of this repo over the seat's translation
import Derived.Test.YtlejdidngmjicaaDoorF0
import Derived.WalkSpells
namespace Go.Proofs.YtlejdidngmjicaaDoor.P
open Go.RowKit Go.Proofs.YtlejdidngmjicaaDoorW.PrintWords Go.Proofs.YtlejdidngmjicaaDoorW.PrintLast Go.Proofs.YtlejdidngmjicaaDoorW.PrintMore Go.Proofs.YtlejdidngmjicaaDoor.G
attribute [local go_sem] max2_int min2_int max_two min_two max_three min_three max_four min_four   -- for this text's walks alone
set_option linter.unusedVariables false
set_option linter.unusedSimpArgs false

--IMPORT Derived.WalkSpells
/-! ### mach_pop: function 35 -/
/-- A machine in memory. -/
def MachAt (w0 w : World) (g : Nat) (A : Option Addr) (n c : Nat) (st : List Int) : Prop :=
  ∃ vs, w.heap[g]? = some (.cells #[vs, .slice A n c] 66 (0, 0)) ∧ Kd.R (Kd.int .i64) 3 w w0.heap.size (fun _ => True) vs st ∧ Below w0.heap.size w0 w
theorem MachAt.drewN {w0 w : World} {g : Nat} {A : Option Addr} {n c : Nat} {st : List Int} (h : MachAt w0 w g A n c st) (m : Nat) : MachAt w0 (w.drewN m) g A n c st := by
  obtain ⟨ve, h1, h2, h3⟩ := h
  exact ⟨ve, h1, Kd.R_drewN h2 m, pw_below_drewN h3 m⟩
theorem MachAt.below {w0 w w' : World} {g : Nat} {A : Option Addr} {n c : Nat} {st : List Int} (h : MachAt w0 w g A n c st) (hb : Below w.heap.size w w') : MachAt w0 w' g A n c st := by
  obtain ⟨ve, h1, h2, h3⟩ := h
  exact ⟨ve, blk_below h1 hb, Kd.R_below h2 hb, below_step h3 hb⟩
theorem MachAt.lt {w0 w : World} {g : Nat} {A : Option Addr} {n c : Nat} {st : List Int} (h : MachAt w0 w g A n c st) : g < w.heap.size := by
  obtain ⟨_, h, _, _⟩ := h
  exact blk_lt h
theorem MachAt.size {w0 w : World} {g : Nat} {A : Option Addr} {n c : Nat} {st : List Int} (h : MachAt w0 w g A n c st) : w0.heap.size ≤ w.heap.size := by
  obtain ⟨_, _, _, h⟩ := h
  exact below_size h
theorem MachAt.parts {w0 w : World} {g : Nat} {A : Option Addr} {n c : Nat} {st : List Int} (h : MachAt w0 w g A n c st.reverse) :
    ∃ A6 c6, w.heap[g]? = some (.cells #[.slice A6 st.length c6, .slice A n c] 66 (0, 0)) ∧ Kd.R (Kd.int .i64) 3 w w0.heap.size (fun _ => True) (.slice A6 st.length c6) st.reverse ∧ Below w0.heap.size w0 w := by
  obtain ⟨vs, h1, h2, h3⟩ := h
  obtain ⟨A6, c6, rfl⟩ := Kd.R_slice h2
  rw [List.length_reverse] at h1 h2
  exact ⟨A6, c6, h1, h2, h3⟩
set_option maxHeartbeats 8000000 in
set_option maxRecDepth 100000 in
theorem mach_pop.calls (w0 : World) (A : Option Addr) (n c : Nat) (g : Nat) (bg : w0.heap.size ≤ g) (ys : List Int) (y : Int) (w : World) (hv : MachAt w0 w g A n c (ys ++ [y])) :
    Calls Tryd.prog 35 #[.pointer (some ⟨g, 0, none⟩)] w fun e w' => e = .returned (.int .i64 y) ∧ MachAt w0 w' g A n c ys ∧ w.heap.size ≤ w'.heap.size ∧ ∀ b, b ≠ g → w'.heap[b]? = w.heap[b]? := by
  have info := (by kernel_rfl : (Tryd.prog.info? 3).map (fun i => (i.zero, i.size, i.bytes)) = some (some (.int .i64 0), 1, 8))
  have BG := Aside0.mk bg
  clear bg
  obtain ⟨vs, hbk, hro, hb⟩ := hv
  have BK := Aside0.mk hbk
  have HB := Aside0.mk hb
  clear hbk hb
  obtain ⟨A6, cp6, rfl⟩ := Kd.R_slice hro
  have hlen : (ys ++ [y]).length = ys.length + 1 := by simp
  replace BK : Aside0 (w.heap[g]? = some (.cells #[.slice A6 (ys.length + 1) cp6, .slice A n c] 66 (0, 0))) := ⟨by rw [← hlen]; exact BK.out⟩
  replace hro : Kd.R (Kd.int .i64) 3 w w0.heap.size (fun _ => True) (.slice A6 (ys.length + 1) cp6) (ys ++ [y]) := by rw [← hlen]; exact hro
  have P6 := Aside0.mk hro
  clear hro hlen
  obtain ⟨gt, cap6, he6, _, _, cgt, hgt⟩ := Kd.R_form P6.out (by simp)
  have HGT := Aside0.mk hgt
  have N6t : g ≠ gt := blk_ne BK.out hgt (by decide)
  have Nt6 := N6t.symm
  clear hgt
  have hAe : A6 = some ⟨gt, 0, none⟩ := by injection he6
  subst hAe
  clear he6
  obtain ⟨hct, hft⟩ := Kd.R_celln (0 : Int) P6.out (ys.length : Int) (by omega) (by omega)
  have hrd : rdOf (0 : Int) (ys ++ [y]) (ys.length : Int) = y := by simp [rdOf]
  rw [hrd, Int.toNat_natCast] at hct
  clear hrd hft
  obtain ⟨i0, hi0, _, hsz, _⟩ := info_parts info
  have hcut := cut_to (P := Tryd.prog) 25 3 .i64 Tryd.underlying25 hi0 (some ⟨gt, 0, none⟩) (ys.length + 1) cp6 (ys.length : Int) (by omega) (by omega) (Kd.R_reads' P6.out).2.1
  rw [Int.toNat_natCast] at hcut
  clear hi0 hsz
  have hc6 : w.cell? ⟨g, 0, none⟩ = some (.slice (some ⟨gt, 0, none⟩) (ys.length + 1) cp6) := (blk_cell BK.out 0).trans rfl
  have hf6 := blk_frozen BK.out 0
  have hmx : ys.length + 1 ≤ 9223372036854775807 := by have h_ := (Kd.R_reads' P6.out).2.2.2.1; rw [List.length_append] at h_; exact h_
  go_enter Tryd.func35, Tryd.ntmps35
  go_wp2
  go_quiet (fail)
  generalize hq : World.drewN w _ = w1
  have K1 := Aside0.mk (blk_at hq BK.out)
  have P1 := Aside0.mk (Kd.R_at hq P6.out)
  have H1 := Aside0.mk (below_at hq HB.out)
  have E1 := Aside0.mk (show w1.heap = w.heap by rw [← hq]; rfl)
  clear hq hc6 hf6 hct
  have hc7 : w1.cell? ⟨g, 0, none⟩ = some (.slice (some ⟨gt, 0, none⟩) (ys.length + 1) cp6) := (blk_cell K1.out 0).trans rfl
  have hf7 := blk_frozen K1.out 0
  go_wp2
  go_region
  have tk := Kd.R_take (m := ys.length) P1.out (by simp)
  rw [List.take_left' rfl] at tk
  have HV := Aside0.mk (show MachAt w0 ((w1.setCell ⟨g, 0, none⟩ (.slice (some ⟨gt, 0, none⟩) ys.length cp6)).drew) g A n c ys from ⟨_, blk_put K1.out 0 _ rfl, Kd.R_drew (Kd.R_set tk K1.out (by decide) _ _), (H1.out.setCell BG.out _).drew⟩)
  clear tk
  go_wp2
  go_ret
  exact ⟨rfl, HV.out, (by simp [World.drew, E1.out]), fun b hb => (Below.heap_setCell w1 ⟨g, 0, none⟩ _ b hb).trans (by rw [E1.out])⟩

end Go.Proofs.YtlejdidngmjicaaDoor.P
