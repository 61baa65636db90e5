-- a walk, laid out by a program of this repo over the seat's translation
import Derived.Test.YtlejdidngmjicaaDoorF0
import Derived.Test.YtlejdidngmjicaaDoorFGrownTake
import Derived.Test.YtlejdidngmjicaaDoorFGrownTake
import Derived.WalkSpells
namespace Go.Proofs.YtlejdidngmjicaaDoor.P
open Go.RowKit Go.Proofs.YtlejdidngmjicaaDoorW.PrintWords Go.Proofs.YtlejdidngmjicaaDoorW.PrintLast Go.Proofs.YtlejdidngmjicaaDoorW.PrintMore Go.Proofs.YtlejdidngmjicaaDoor.G
attribute [local go_sem] max2_int min2_int max_two min_two max_three min_three max_four min_four   -- for this text's walks alone
set_option linter.unusedVariables false
set_option linter.unusedSimpArgs false

--IMPORT FGrownTake
--IMPORT Derived.WalkSpells
/-! ### grown_put: function 37 -/
def grown_put.f (st : GrSt) (kind value : Int) : Option GrSt :=
  if st.out.length < 8796093022208 then some { st with out := st.out ++ [⟨kind, value⟩] } else none
set_option maxHeartbeats 8000000 in
set_option maxRecDepth 100000 in
theorem grown_put.calls (w0 : World) (A : Option Addr) (n c : Nat) (g : Nat) (vars props : Int) (bg : w0.heap.size ≤ g) (st : GrSt) (kind value : Int) (st' : GrSt) (w : World) (hv : GrownAt w0 w g A n c vars props st) (h : grown_put.f st kind value = some st') :
    Calls Tryd.prog 37 #[.pointer (some ⟨g, 0, none⟩), .int .i64 kind, .int .i64 value] w fun e w' => e = .returned (.tuple #[]) ∧ GrownAt w0 w' g A n c vars props st' := by
  have info := (by kernel_rfl : (Tryd.prog.info? 32).map (fun i => (i.zero, i.size, i.bytes)) = some (some (.agg #[(.int .i64 0), (.int .i64 0)]), 2, 16))
  have BG := Aside0.mk bg
  clear bg
  obtain ⟨at_, tempo, out⟩ := st
  obtain ⟨vo, hbk, hro, hb⟩ := hv
  have BK := Aside0.mk hbk
  have RO := Aside0.mk hro
  have HB := Aside0.mk hb
  clear hbk hro hb
  obtain ⟨Ao, co, rfl⟩ := Kd.R_slice RO.out
  unfold grown_put.f at h
  by_cases c1 : out.length < 8796093022208
  · rw [if_pos c1] at h
    obtain rfl := Option.some.inj h
    have LM := Aside0.mk c1
    clear c1 h
    have hcz5 : w.cell? ⟨g, 5, none⟩ = some (.slice Ao out.length co) := (blk_cell BK.out 5).trans rfl
    have hfz5 := blk_frozen BK.out 5
    go_enter Tryd.func37, Tryd.ntmps37
    go_wp2_with (first | ((with_reducible refine gate_builtin (b := .append) (xs := #[.tmp 10, .tmp 14]) rfl ?_); at_builtin; go_must (refine Kd.R_append k32 (w0 := w0) w0.heap.size rfl (.tmp 10) (.tmp 14) 23 32 (.agg #[(.int .i64 0), (.int .i64 0)]) 16 rfl Tryd.underlying23 info rfl (by decide) (by omega) (.slice Ao out.length co) out (⟨kind, value⟩ : S32) [.int .i64 kind, .int .i64 value] (fun _ => True) (fun _ => False) rfl rfl ?aP (fun _ hk => hk.elim) ?aF ?aO ?aB ?aS ?aL ?_; (case aP => exact k32_mkM _ _ _ (⟨kind, value⟩ : S32)); (case aB => exact HB.out); (case aF => exact (fun _ _ => trivial)); (case aO => exact RO.out); (case aS => exact below_size HB.out); (case aL => have := LM.out; omega); intro v1 w2 ho hb hg hat; obtain ⟨A1, c1, rfl⟩ := Kd.R_slice ho; replace ho : Kd.R k32 32 w2 w0.heap.size (fun _ => True) (.slice A1 (out.length + 1) c1) (out ++ [(⟨kind, value⟩ : S32)]) := (by rw [List.length_append] at ho; exact ho); have R1 := Aside0.mk ho; have HB2 := Aside0.mk hb; have K2 := Aside0.mk (blk_grown BK.out hg (Kd.R_ne RO.out BK.out (by decide))); clear ho hb hg hat; have hcz6 : w2.cell? ⟨g, 5, none⟩ = some (.slice Ao out.length co) := (blk_cell K2.out 5).trans rfl; have hfz6 := blk_frozen K2.out 5)))
    go_end0
    exact ⟨rfl, _, blk_put K2.out 5 _ rfl, Kd.R_set R1.out K2.out (by decide) _ _, HB2.out.setCell BG.out _⟩
  · rw [if_neg c1] at h
    exact absurd h (by simp)

end Go.Proofs.YtlejdidngmjicaaDoor.P
