-- a walk, laid out by a program of this repo over the seat's translation
import Derived.Test.YtcoaeefmmnohkaaDoorF0
import Derived.Test.YtcoaeefmmnohkaaDoorFForetellkeepPicked
import Derived.Test.YtcoaeefmmnohkaaDoorFGrownTake
import Derived.Test.YtcoaeefmmnohkaaDoorFGrownTake
import Derived.WalkSpells
namespace Go.Proofs.YtcoaeefmmnohkaaDoor.P
open Go.RowKit Go.Proofs.YtcoaeefmmnohkaaDoorW.PrintWords Go.Proofs.YtcoaeefmmnohkaaDoorW.PrintLast Go.Proofs.YtcoaeefmmnohkaaDoorW.PrintMore Go.Proofs.YtcoaeefmmnohkaaDoor.G
attribute [local go_sem] max2_int min2_int max_two min_two max_three min_three max_four min_four   -- for this text's walks alone
set_option linter.unusedVariables false
set_option linter.unusedSimpArgs false

--IMPORT FGrownTake
--IMPORT Derived.WalkSpells
/-! ### grown_put: function 39 -/
def grown_put.f (st : GrSt) (kind value : Int) : Option GrSt :=
  if st.out.length < 8796093022208 then some { st with out := st.out ++ [⟨kind, value⟩] } else none
set_option maxHeartbeats 8000000 in
set_option maxRecDepth 100000 in
theorem grown_put.calls (w0 : World) (A : Option Addr) (n c : Nat) (g : Nat) (vars props : Int) (bg : w0.heap.size ≤ g) (st : GrSt) (kind value : Int) (st' : GrSt) (w : World) (hv : GrownAt w0 w g A n c vars props st) (h : grown_put.f st kind value = some st') :
    Calls Tryd.prog 39 #[.pointer (some ⟨g, 0, none⟩), .int .i64 kind, .int .i64 value] w fun e w' => e = .returned (.tuple #[]) ∧ GrownAt w0 w' g A n c vars props st' := by
  have info := (by kernel_rfl : (Tryd.prog.info? 51).map (fun i => (i.zero, i.size, i.bytes)) = some (some (.agg #[(.int .i64 0), (.int .i64 0)]), 2, 16))
  have BG := Aside0.mk bg
  clear bg
  obtain ⟨at_, tempo, out⟩ := st
  obtain ⟨vo, hbk, hro, hb⟩ := hv
  have BK := Aside0.mk hbk
  have RO := Aside0.mk hro
  have HB := Aside0.mk hb
  clear hbk hro hb
  obtain ⟨Ao, co, rfl⟩ := Kd.R_slice RO.out
  unfold grown_put.f at h
  by_cases c1 : out.length < 8796093022208
  · rw [if_pos c1] at h
    obtain rfl := Option.some.inj h
    have LM := Aside0.mk c1
    clear c1 h
    have hcz5 : w.cell? ⟨g, 5, none⟩ = some (.slice Ao out.length co) := (blk_cell BK.out 5).trans rfl
    have hfz5 := blk_frozen BK.out 5
    go_enter Tryd.func39, Tryd.ntmps39
    go_wp2_with (first | ((with_reducible refine gate_builtin (b := .append) (xs := #[.tmp 10, .tmp 14]) rfl ?_); at_builtin; go_must (refine Kd.R_append k51 (w0 := w0) w0.heap.size rfl (.tmp 10) (.tmp 14) 23 51 (.agg #[(.int .i64 0), (.int .i64 0)]) 16 rfl Tryd.underlying23 info rfl (by decide) (by omega) (.slice Ao out.length co) out (⟨kind, value⟩ : S51) [.int .i64 kind, .int .i64 value] (fun _ => True) (fun _ => False) rfl rfl ?aP (fun _ hk => hk.elim) ?aF ?aO ?aB ?aS ?aL ?_; (case aP => exact k51_mkM _ _ _ (⟨kind, value⟩ : S51)); (case aB => exact HB.out); (case aF => exact (fun _ _ => trivial)); (case aO => exact RO.out); (case aS => exact below_size HB.out); (case aL => have := LM.out; omega); intro v1 w2 ho hb hg hat; obtain ⟨A1, c1, rfl⟩ := Kd.R_slice ho; replace ho : Kd.R k51 51 w2 w0.heap.size (fun _ => True) (.slice A1 (out.length + 1) c1) (out ++ [(⟨kind, value⟩ : S51)]) := (by rw [List.length_append] at ho; exact ho); have R1 := Aside0.mk ho; have HB2 := Aside0.mk hb; have K2 := Aside0.mk (blk_grown BK.out hg (Kd.R_ne RO.out BK.out (by decide))); clear ho hb hg hat; have hcz6 : w2.cell? ⟨g, 5, none⟩ = some (.slice Ao out.length co) := (blk_cell K2.out 5).trans rfl; have hfz6 := blk_frozen K2.out 5)))
    go_end0
    exact ⟨rfl, _, blk_put K2.out 5 _ rfl, Kd.R_set R1.out K2.out (by decide) _ _, HB2.out.setCell BG.out _⟩
  · rw [if_neg c1] at h
    exact absurd h (by simp)
theorem picked_same (a0 a1 r : Int) (w : World) (h : foretellkeep_picked.f a0 a1 = some r) : Calls Tryd.prog 18 #[.int .i64 a0, .int .i64 a1] w fun e w' => e = .returned (.int .i64 r) ∧ w' = w := by
  have H := h
  unfold foretellkeep_picked.f at H
  clear h
  by_cases c3 : a0 < 0
  · rw [if_pos c3] at H
    have c3b0 : decide (a0 < 0) = true := decide_eq_true c3
    clear c3
    by_cases c4 : a1 = 0
    · rw [if_pos c4] at H
      exact absurd H (by simp)
    · rw [if_neg c4] at H
      have c4b0 : (a1 == 0) = false := beq_eq_false_iff_ne.mpr c4
      have c4b1 : (a1 != 0) = true := bne_iff_ne.mpr c4
      obtain rfl := Option.some.inj H
      go_enter Tryd.func18, Tryd.ntmps18
      go_wp2
      go_ret
      exact ⟨by first | rfl | (simp; done) | (simp [*]; done), rfl⟩
  · rw [if_neg c3] at H
    have c3b0 : decide (a0 < 0) = false := decide_eq_false c3
    clear c3
    by_cases c5 : a1 = 0
    · rw [if_pos c5] at H
      exact absurd H (by simp)
    · rw [if_neg c5] at H
      have c5b0 : (a1 == 0) = false := beq_eq_false_iff_ne.mpr c5
      have c5b1 : (a1 != 0) = true := bne_iff_ne.mpr c5
      obtain rfl := Option.some.inj H
      go_enter Tryd.func18, Tryd.ntmps18
      go_wp2
      go_ret
      exact ⟨by first | rfl | (simp; done) | (simp [*]; done), rfl⟩
theorem GrownAt.size {w0 w : World} {g : Nat} {A : Option Addr} {n c : Nat} {vars props : Int} {st : GrSt} (h : GrownAt w0 w g A n c vars props st) : w0.heap.size ≤ w.heap.size := by
  obtain ⟨_, _, _, h⟩ := h
  exact below_size h
theorem GrownAt.lt {w0 w : World} {g : Nat} {A : Option Addr} {n c : Nat} {vars props : Int} {st : GrSt} (h : GrownAt w0 w g A n c vars props st) : g < w.heap.size := by
  obtain ⟨_, h, _, _⟩ := h
  exact blk_lt h
theorem GrownAt.c1 {w0 w : World} {g : Nat} {A : Option Addr} {n c : Nat} {vars props : Int} {st : GrSt} (h : GrownAt w0 w g A n c vars props st) : w.cell? ⟨g, 1, none⟩ = some (.int .i64 st.at_) := by
  obtain ⟨_, h, _, _⟩ := h
  exact (blk_cell h 1).trans rfl
theorem GrownAt.c2 {w0 w : World} {g : Nat} {A : Option Addr} {n c : Nat} {vars props : Int} {st : GrSt} (h : GrownAt w0 w g A n c vars props st) : w.cell? ⟨g, 2, none⟩ = some (.int .i64 vars) := by
  obtain ⟨_, h, _, _⟩ := h
  exact (blk_cell h 2).trans rfl
theorem GrownAt.c3 {w0 w : World} {g : Nat} {A : Option Addr} {n c : Nat} {vars props : Int} {st : GrSt} (h : GrownAt w0 w g A n c vars props st) : w.cell? ⟨g, 3, none⟩ = some (.int .i64 props) := by
  obtain ⟨_, h, _, _⟩ := h
  exact (blk_cell h 3).trans rfl
theorem GrownAt.c4 {w0 w : World} {g : Nat} {A : Option Addr} {n c : Nat} {vars props : Int} {st : GrSt} (h : GrownAt w0 w g A n c vars props st) : w.cell? ⟨g, 4, none⟩ = some (.int .i64 st.tempo) := by
  obtain ⟨_, h, _, _⟩ := h
  exact (blk_cell h 4).trans rfl
theorem GrownAt.f4 {w0 w : World} {g : Nat} {A : Option Addr} {n c : Nat} {vars props : Int} {st : GrSt} (h : GrownAt w0 w g A n c vars props st) : w.frozen? ⟨g, 4, none⟩ = false := by
  obtain ⟨_, h, _, _⟩ := h
  exact blk_frozen h 4
/-- Fewer ops that look ahead are left. -/
theorem GrownAt.put4 {w0 w : World} {g : Nat} {A : Option Addr} {n c : Nat} {vars props : Int} {st : GrSt} (h : GrownAt w0 w g A n c vars props st) (bg : w0.heap.size ≤ g) (t : Int) : GrownAt w0 (w.setCell ⟨g, 4, none⟩ (.int .i64 t)) g A n c vars props { st with tempo := t } := by
  obtain ⟨vo, h1, h2, h3⟩ := h
  exact ⟨vo, blk_put h1 4 _ rfl, Kd.R_set h2 h1 (by decide) _ _, h3.setCell bg _⟩

end Go.Proofs.YtcoaeefmmnohkaaDoor.P
