-- PACKED by pack.py of this repo: QKeepGraph
import Derived.Test.YtpkigkmkolbiiaaK7
import Derived.Test.YtpkigkmkolbiiaaK14
section
namespace Go.Proofs.Ytpkigkmkolbiiaa.Q
open Go.RowKit Go.Proofs.YtpkigkmkolbiiaaW.PrintWords Go.Proofs.YtpkigkmkolbiiaaW.PrintMore Go.Proofs.Ytpkigkmkolbiiaa.P
set_option linter.unusedVariables false
structure Gp (n i : Nat) (sp : List S45) (nx : List (List Int)) (ms : List Int) (many : Int) : Prop where
  sl : sp.length = i
  nl : nx.length = i
  ml : ms.length = i
  nr : ∀ l ∈ nx, l.length ≤ 6 ∧ ∀ b ∈ l, 0 ≤ b ∧ b < n
  mr : ∀ m ∈ ms, 0 ≤ m ∧ m < shl .i64 1 many
theorem Gp.gs {n : Nat} {sp : List S45} {nx : List (List Int)} {ms : List Int} {many f : Int} (h : Gp n n sp nx ms many) (hn : n ≤ 20000) (f0 : 0 ≤ f) (f1 : f ≤ n) (m0 : 0 ≤ many) (m1 : many ≤ 6) : Gs n sp f nx ms many := by
  have hmem : ∀ a : Int, rd_L1 nx a = [] ∨ rd_L1 nx a ∈ nx := fun a => by
    unfold rd_L1
    rw [List.getD_eq_getElem?_getD]
    by_cases c : a.toNat < nx.length
    · rw [List.getElem?_eq_getElem c]
      exact .inr (List.getElem_mem c)
    · rw [List.getElem?_eq_none (by omega)]
      exact .inl rfl
  refine ⟨⟨h.nl, hn, fun a a0 a1 b hb => ?_, fun a => ?_⟩, h.sl, f0, f1, h.ml, m0, m1, fun i i0 i1 => ?_⟩
  · rcases hmem a with e | e
    · rw [e] at hb
      exact absurd hb (by simp)
    · exact (h.nr _ e).2 b hb
  · rcases hmem a with e | e
    · rw [e]
      simp
    · have := (h.nr _ e).1
      omega
  · have hl := h.ml
    have hi : i.toNat < ms.length := by omega
    have e : rd ms i = ms[i.toNat] := by
      unfold rd
      rw [List.getD_eq_getElem?_getD, List.getElem?_eq_getElem hi]
      rfl
    rw [e]
    exact h.mr _ (List.getElem_mem hi)
end Go.Proofs.Ytpkigkmkolbiiaa.Q
end
