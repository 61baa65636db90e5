/- Where a term lies in a row of ops. -/
import Derived.Test.YtcoaeefmmnohkaaDoorQTerm
namespace Go.Proofs.YtcoaeefmmnohkaaDoor.Q
open Go.RowKit Go.Proofs.YtcoaeefmmnohkaaDoorW.PrintWords Go.Proofs.YtcoaeefmmnohkaaDoorW.PrintMore Go.Proofs.YtcoaeefmmnohkaaDoor.P
set_option linter.unusedVariables false
def Tm.rt : Tm → Op
  | .leaf o => o
  | .un o _ => o
  | .bin o _ _ => o
theorem Tm.flat_rt (t : Tm) : ∃ rest, t.flat = t.rt :: rest := by cases t <;> exact ⟨_, rfl⟩
theorem Tm.ends_rt (t : Tm) (p : Int) : ∃ rest, t.ends p = (p + t.size) :: rest := by
  cases t with
  | leaf o => exact ⟨_, rfl⟩
  | un o a => exact ⟨a.ends (p + 1), by simp only [Tm.ends, Tm.size]; congr 1; omega⟩
  | bin o a b => exact ⟨a.ends (p + 1) ++ b.ends (p + 1 + a.size), by simp only [Tm.ends, Tm.size]; congr 1; omega⟩
theorem rd_at {es A B : List Int} {e : Int} (h : es = A ++ e :: B) {p : Int} (hp : p = (A.length : Int)) : rd es p = e := by
  subst h; subst hp
  unfold rd
  rw [Int.toNat_natCast, List.getD_eq_getElem?_getD, List.getElem?_append_right (Nat.le_refl _)]
  simp
/-- Where a term lies in a row of ops, and its ends in a row of ends. -/
structure Lies (t : Tm) (p : Int) (l : List Op) (es : List Int) : Prop where
  ops : ∃ pre post, l = pre ++ (t.flat ++ post) ∧ p = (pre.length : Int)
  ends : ∃ A B, es = A ++ (t.ends p ++ B) ∧ p = (A.length : Int)
theorem Lies.p0 {t : Tm} {p : Int} {l : List Op} {es : List Int} (h : Lies t p l es) : 0 ≤ p ∧ p + t.size ≤ l.length ∧ p + t.size ≤ es.length := by
  obtain ⟨⟨pre, post, h1, h2⟩, ⟨A, B, h3, h4⟩⟩ := h
  refine ⟨by omega, ?_, ?_⟩
  · rw [h1, List.length_append, List.length_append, t.flat_len]; omega
  · rw [h3, List.length_append, List.length_append, t.ends_len]; omega
theorem Lies.rt {t : Tm} {p : Int} {l : List Op} {es : List Int} (h : Lies t p l es) : rd_T51 l p = t.rt ∧ rd es p = p + t.size := by
  obtain ⟨⟨pre, post, h1, h2⟩, ⟨A, B, h3, h4⟩⟩ := h
  obtain ⟨r1, hr1⟩ := t.flat_rt
  obtain ⟨r2, hr2⟩ := t.ends_rt p
  rw [hr1] at h1
  rw [hr2] at h3
  exact ⟨rdT_at (pre := pre) (post := r1 ++ post) (by rw [h1]; simp) h2, rd_at (A := A) (B := r2 ++ B) (by rw [h3]; simp) h4⟩
theorem Lies.un {o : Op} {a : Tm} {p : Int} {l : List Op} {es : List Int} (h : Lies (.un o a) p l es) : Lies a (p + 1) l es := by
  obtain ⟨⟨pre, post, h1, h2⟩, ⟨A, B, h3, h4⟩⟩ := h
  exact ⟨⟨pre ++ [o], post, by rw [h1]; simp [Tm.flat], by rw [List.length_append, List.length_singleton]; omega⟩, ⟨A ++ [p + 1 + a.size], B, by rw [h3]; simp [Tm.ends], by rw [List.length_append, List.length_singleton]; omega⟩⟩
theorem Lies.left {o : Op} {a b : Tm} {p : Int} {l : List Op} {es : List Int} (h : Lies (.bin o a b) p l es) : Lies a (p + 1) l es := by
  obtain ⟨⟨pre, post, h1, h2⟩, ⟨A, B, h3, h4⟩⟩ := h
  exact ⟨⟨pre ++ [o], b.flat ++ post, by rw [h1]; simp [Tm.flat], by rw [List.length_append, List.length_singleton]; omega⟩, ⟨A ++ [p + 1 + a.size + b.size], b.ends (p + 1 + a.size) ++ B, by rw [h3]; simp [Tm.ends], by rw [List.length_append, List.length_singleton]; omega⟩⟩
theorem Lies.right {o : Op} {a b : Tm} {p : Int} {l : List Op} {es : List Int} (h : Lies (.bin o a b) p l es) : Lies b (p + 1 + a.size) l es := by
  obtain ⟨⟨pre, post, h1, h2⟩, ⟨A, B, h3, h4⟩⟩ := h
  exact ⟨⟨pre ++ [o] ++ a.flat, post, by rw [h1]; simp [Tm.flat], by rw [List.length_append, List.length_append, List.length_singleton, a.flat_len]; omega⟩, ⟨A ++ [p + 1 + a.size + b.size] ++ a.ends (p + 1), B, by rw [h3]; simp [Tm.ends], by rw [List.length_append, List.length_append, List.length_singleton, a.ends_len]; omega⟩⟩
theorem lies_whole (t : Tm) : Lies t 0 t.flat (t.ends 0) := ⟨⟨[], [], by simp, rfl⟩, ⟨[], [], by simp, rfl⟩⟩
end Go.Proofs.YtcoaeefmmnohkaaDoor.Q
