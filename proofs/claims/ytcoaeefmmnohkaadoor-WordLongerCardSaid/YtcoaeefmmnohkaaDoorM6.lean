-- PACKED by pack.py of this repo: QTerm QTake QLies
import Derived.Test.YtcoaeefmmnohkaaDoorM4
import Derived.Test.YtcoaeefmmnohkaaDoorM5
import Derived.Test.YtcoaeefmmnohkaaDoorM3
section
namespace Go.Proofs.YtcoaeefmmnohkaaDoor.Q
open Go.RowKit Go.Proofs.YtcoaeefmmnohkaaDoorW.PrintWords Go.Proofs.YtcoaeefmmnohkaaDoorW.PrintMore Go.Proofs.YtcoaeefmmnohkaaDoor.P
set_option linter.unusedVariables false
abbrev Op := S51
abbrev Raw := S79
inductive Tm
  | leaf (o : Op)
  | un (o : Op) (a : Tm)
  | bin (o : Op) (a b : Tm)
def Tm.flat : Tm → List Op
  | .leaf o => [o]
  | .un o a => o :: a.flat
  | .bin o a b => o :: (a.flat ++ b.flat)
def Tm.size : Tm → Nat
  | .leaf _ => 1
  | .un _ a => a.size + 1
  | .bin _ a b => a.size + b.size + 1
theorem Tm.flat_len : ∀ t : Tm, t.flat.length = t.size
  | .leaf _ => rfl
  | .un _ a => by simp [Tm.flat, Tm.size, Tm.flat_len a]
  | .bin _ a b => by simp [Tm.flat, Tm.size, Tm.flat_len a, Tm.flat_len b]
theorem Tm.size_pos (t : Tm) : 0 < t.size := by cases t <;> simp [Tm.size]
def Tm.ok : Tm → Prop
  | .leaf o => 1 ≤ o.f0 ∧ o.f0 ≤ 18 ∧ polish_Parts.tab.getD o.f0.toNat 0 = 0
  | .un o a => 1 ≤ o.f0 ∧ o.f0 ≤ 18 ∧ polish_Parts.tab.getD o.f0.toNat 0 = 1 ∧ a.ok
  | .bin o a b => 1 ≤ o.f0 ∧ o.f0 ≤ 18 ∧ polish_Parts.tab.getD o.f0.toNat 0 = 2 ∧ a.ok ∧ b.ok
def Tm.ends : Int → Tm → List Int
  | p, .leaf _ => [p + 1]
  | p, .un _ a => (p + 1 + a.size) :: a.ends (p + 1)
  | p, .bin _ a b => (p + 1 + a.size + b.size) :: (a.ends (p + 1) ++ b.ends (p + 1 + a.size))
theorem Tm.ends_len : ∀ (t : Tm) (p : Int), (t.ends p).length = t.size
  | .leaf _, _ => rfl
  | .un _ a, p => by simp [Tm.ends, Tm.size, Tm.ends_len a]
  | .bin _ a b, p => by simp [Tm.ends, Tm.size, Tm.ends_len a, Tm.ends_len b]
theorem rdT_at {l pre post : List Op} {o : Op} (h : l = pre ++ o :: post) {p : Int} (hp : p = (pre.length : Int)) : rd_T51 l p = o := by
  subst h; subst hp
  unfold rd_T51
  rw [Int.toNat_natCast, List.getD_eq_getElem?_getD, List.getElem?_append_right (Nat.le_refl _)]
  simp
theorem skip_ok : ∀ (t : Tm), t.ok → ∀ (l pre post : List Op) (A M B : List Int) (p : Int), l = pre ++ (t.flat ++ post) → p = (pre.length : Int) → A.length = pre.length → M.length = t.size → l.length ≤ 1000000 →
    Ev (fun k => polish_skip.f k l p (A ++ (M ++ B))) (0, p + t.size, A ++ (t.ends p ++ B)) := by
  intro t
  induction t with
  | leaf o =>
    intro hok l pre post A M B p hl hp hA hM hlen
    obtain ⟨h1, h2, h3⟩ := hok
    have hrd : rd_T51 l p = o := rdT_at (post := post) hl hp
    have hll : l.length = pre.length + (1 + post.length) := by rw [hl]; simp [Tm.flat]; omega
    obtain ⟨m, rfl⟩ : ∃ m, M = [m] := by
      cases M with
      | nil => simp [Tm.size] at hM
      | cons m M => cases M with
        | nil => exact ⟨m, rfl⟩
        | cons _ _ => simp [Tm.size] at hM
    refine Ev.step (f := fun k => polish_skip.l k l p 0 0 (p + 1) (A ++ ([m] ++ B))) (fun k => ?_) (Ev.step (f := fun _ => some (0, p + 1, A ++ ([p + 1] ++ B))) (fun k => ?_) (Ev.now _))
    · simp only [polish_skip.f, hrd, h3]
      rw [if_pos (by omega), if_pos (by omega), if_neg (by omega), if_neg (by omega), w64 (n := p + 1) (by omega) (by omega)]
    · simp only [polish_skip.l]
      rw [if_neg (by omega), if_pos (by simp; omega)]
      congr 3
      rw [hp, Int.toNat_natCast, ← hA]
      simp
  | un o a iha =>
    intro hok l pre post A M B p hl hp hA hM hlen
    obtain ⟨h1, h2, h3, h4⟩ := hok
    have hrd : rd_T51 l p = o := rdT_at (post := a.flat ++ post) (by rw [hl]; rfl) hp
    have hll : l.length = pre.length + (1 + a.size + post.length) := by rw [hl]; simp [Tm.flat, Tm.flat_len]; omega
    obtain ⟨m, M', rfl⟩ : ∃ m M', M = m :: M' := by
      cases M with
      | nil => simp [Tm.size] at hM
      | cons m M => exact ⟨m, M, rfl⟩
    have hM' : M'.length = a.size := by simp [Tm.size] at hM; omega
    have ha := iha h4 l (pre ++ [o]) post (A ++ [m]) M' B (p + 1) (by rw [hl]; simp [Tm.flat]) (by rw [List.length_append]; simp; omega) (by simp [hA]) hM' hlen
    have hfin : Ev (fun k => polish_skip.l k l p 1 1 (p + 1 + a.size) ((A ++ [m]) ++ (a.ends (p + 1) ++ B))) (0, p + (Tm.un o a).size, A ++ ((Tm.un o a).ends p ++ B)) := by
      refine Ev.step (f := fun _ => some (0, p + (Tm.un o a).size, A ++ ((Tm.un o a).ends p ++ B))) (fun k => ?_) (Ev.now _)
      simp only [polish_skip.l]
      rw [if_neg (by omega), if_pos (by simp; omega)]
      have e : (A ++ [m] ++ (a.ends (p + 1) ++ B)).set p.toNat (p + 1 + a.size) = A ++ ((p + 1 + a.size) :: a.ends (p + 1) ++ B) := by
        rw [hp, Int.toNat_natCast, ← hA]
        simp
      rw [e]
      refine congrArg some (Prod.ext rfl (Prod.ext ?_ rfl))
      show p + 1 + (a.size : Int) = p + ((a.size + 1 : Nat) : Int)
      omega
    refine Ev.step (f := fun k => polish_skip.l k l p 1 0 (p + 1) (A ++ (m :: M' ++ B))) (fun k => ?_) ?_
    · simp only [polish_skip.f, hrd, h3]
      rw [if_pos (by omega), if_pos (by omega), if_neg (by omega), if_neg (by omega), w64 (n := p + 1) (by omega) (by omega)]
    refine Ev.step (f := fun k => (polish_skip.f k l (p + 1) ((A ++ [m]) ++ (M' ++ B))).bind fun r => if r.1 = 0 then polish_skip.l k l p 1 1 r.2.1 r.2.2 else some (r.1, 0, r.2.2)) (fun k => ?_) (Ev.bind ha ?_)
    · simp only [polish_skip.l]
      rw [if_pos (by omega), w64 (n := (0 : Int) + 1) (by omega) (by omega)]
      simp
    · simp only [if_true]
      exact hfin
  | bin o a b iha ihb =>
    intro hok l pre post A M B p hl hp hA hM hlen
    obtain ⟨h1, h2, h3, h4, h5⟩ := hok
    have hrd : rd_T51 l p = o := rdT_at (post := a.flat ++ b.flat ++ post) (by rw [hl]; rfl) hp
    have hll : l.length = pre.length + (1 + a.size + b.size + post.length) := by rw [hl]; simp [Tm.flat, Tm.flat_len]; omega
    obtain ⟨m, M', rfl⟩ : ∃ m M', M = m :: M' := by
      cases M with
      | nil => simp [Tm.size] at hM
      | cons m M => exact ⟨m, M, rfl⟩
    obtain ⟨Ma, Mb, rfl, hMa, hMb⟩ : ∃ Ma Mb, M' = Ma ++ Mb ∧ Ma.length = a.size ∧ Mb.length = b.size := by
      refine ⟨M'.take a.size, M'.drop a.size, (List.take_append_drop _ _).symm, ?_, ?_⟩
      · simp [Tm.size] at hM; rw [List.length_take]; omega
      · simp [Tm.size] at hM; rw [List.length_drop]; omega
    have ha := iha h4 l (pre ++ [o]) (b.flat ++ post) (A ++ [m]) Ma (Mb ++ B) (p + 1) (by rw [hl]; simp [Tm.flat]) (by rw [List.length_append]; simp; omega) (by simp [hA]) hMa hlen
    have hb := ihb h5 l (pre ++ [o] ++ a.flat) post (A ++ [m] ++ a.ends (p + 1)) Mb B (p + 1 + a.size) (by rw [hl]; simp [Tm.flat]) (by simp [Tm.flat_len]; omega) (by simp [hA, Tm.flat_len, Tm.ends_len]) hMb hlen
    have hfin : Ev (fun k => polish_skip.l k l p 2 2 (p + 1 + a.size + b.size) ((A ++ [m] ++ a.ends (p + 1)) ++ (b.ends (p + 1 + a.size) ++ B))) (0, p + (Tm.bin o a b).size, A ++ ((Tm.bin o a b).ends p ++ B)) := by
      refine Ev.step (f := fun _ => some (0, p + (Tm.bin o a b).size, A ++ ((Tm.bin o a b).ends p ++ B))) (fun k => ?_) (Ev.now _)
      simp only [polish_skip.l]
      rw [if_neg (by omega), if_pos (by simp; omega)]
      have e : (A ++ [m] ++ a.ends (p + 1) ++ (b.ends (p + 1 + a.size) ++ B)).set p.toNat (p + 1 + a.size + b.size) = A ++ ((p + 1 + a.size + b.size) :: (a.ends (p + 1) ++ b.ends (p + 1 + a.size)) ++ B) := by
        rw [hp, Int.toNat_natCast, ← hA]
        simp
      rw [e]
      refine congrArg some (Prod.ext rfl (Prod.ext ?_ rfl))
      show p + 1 + (a.size : Int) + b.size = p + ((a.size + b.size + 1 : Nat) : Int)
      omega
    refine Ev.step (f := fun k => polish_skip.l k l p 2 0 (p + 1) (A ++ (m :: (Ma ++ Mb) ++ B))) (fun k => ?_) ?_
    · simp only [polish_skip.f, hrd, h3]
      rw [if_pos (by omega), if_pos (by omega), if_neg (by omega), if_neg (by omega), w64 (n := p + 1) (by omega) (by omega)]
    refine Ev.step (f := fun k => (polish_skip.f k l (p + 1) ((A ++ [m]) ++ (Ma ++ (Mb ++ B)))).bind fun r => if r.1 = 0 then polish_skip.l k l p 2 1 r.2.1 r.2.2 else some (r.1, 0, r.2.2)) (fun k => ?_) (Ev.bind ha ?_)
    · simp only [polish_skip.l]
      rw [if_pos (by omega), w64 (n := (0 : Int) + 1) (by omega) (by omega)]
      simp
    simp only [if_true]
    refine Ev.step (f := fun k => (polish_skip.f k l (p + 1 + a.size) ((A ++ [m] ++ a.ends (p + 1)) ++ (Mb ++ B))).bind fun r => if r.1 = 0 then polish_skip.l k l p 2 2 r.2.1 r.2.2 else some (r.1, 0, r.2.2)) (fun k => ?_) (Ev.bind hb ?_)
    · simp only [polish_skip.l]
      rw [if_pos (by omega), w64 (n := (1 : Int) + 1) (by omega) (by omega)]
      simp
    · simp only [if_true]
      exact hfin
theorem ends_ok (t : Tm) (h : t.ok) (hs : t.size ≤ 60) : Ev (fun k => polish_Ends.f k t.flat) (t.ends 0, 0) := by
  have hl := t.flat_len
  unfold polish_Ends.f
  simp only [if_neg (show ¬ (60 < (t.flat.length : Int)) by omega)]
  refine Ev.bind (a := ((0 : Int), (t.size : Int), t.ends 0)) ?_ ?_
  · have := skip_ok t h t.flat [] [] [] (List.replicate t.flat.length 0) [] 0 (by simp) rfl rfl (by simp [hl]) (by omega)
    simpa using this
  · simp only [if_true, hl]
    exact Ev.now _
end Go.Proofs.YtcoaeefmmnohkaaDoor.Q
end
section
namespace Go.Proofs.YtcoaeefmmnohkaaDoor.Q
open Go.RowKit Go.Proofs.YtcoaeefmmnohkaaDoorW.PrintWords Go.Proofs.YtcoaeefmmnohkaaDoorW.PrintMore Go.Proofs.YtcoaeefmmnohkaaDoor.P
set_option linter.unusedVariables false
def rawWf (raw : List Raw) : Prop := ∀ y ∈ raw, ((Lit.int .i64 y.f0).wf = true ∧ (Lit.int .i64 y.f1).wf = true)
theorem take_is {raw : List Raw} (hw : rawWf raw) (a tp : Int) (out : List Op) (h0 : 0 ≤ a) (h1 : a ≤ 1000000) : ∃ r : Raw, grown_take.f raw ⟨a, tp, out⟩ = some (r, ⟨a + 1, tp, out⟩) ∧ (Lit.int .i64 r.f0).wf = true ∧ (Lit.int .i64 r.f1).wf = true := by
  unfold grown_take.f
  simp only [w64 (n := a + 1) (by omega) (by omega)]
  by_cases c : a < (raw.length : Int)
  · rw [if_pos c, if_pos h0]
    have hm : rd_T79 raw a ∈ raw := by
      unfold rd_T79
      rw [List.getD_eq_getElem?_getD, List.getElem?_eq_getElem (show a.toNat < raw.length by omega)]
      exact List.getElem_mem _
    exact ⟨_, rfl, (hw _ hm).1, (hw _ hm).2⟩
  · rw [if_neg c]
    exact ⟨⟨0, 0⟩, rfl, by decide, by decide⟩
theorem put_ok (a tp : Int) (out : List Op) (kind value : Int) (h : out.length ≤ 1000000) : grown_put.f ⟨a, tp, out⟩ kind value = some ⟨a, tp, out ++ [⟨kind, value⟩]⟩ := by
  unfold grown_put.f
  rw [if_pos (show out.length < 8796093022208 by omega)]
end Go.Proofs.YtcoaeefmmnohkaaDoor.Q
end
section
namespace Go.Proofs.YtcoaeefmmnohkaaDoor.Q
open Go.RowKit Go.Proofs.YtcoaeefmmnohkaaDoorW.PrintWords Go.Proofs.YtcoaeefmmnohkaaDoorW.PrintMore Go.Proofs.YtcoaeefmmnohkaaDoor.P
set_option linter.unusedVariables false
def Tm.rt : Tm → Op
  | .leaf o => o
  | .un o _ => o
  | .bin o _ _ => o
theorem Tm.flat_rt (t : Tm) : ∃ rest, t.flat = t.rt :: rest := by cases t <;> exact ⟨_, rfl⟩
theorem Tm.ends_rt (t : Tm) (p : Int) : ∃ rest, t.ends p = (p + t.size) :: rest := by
  cases t with
  | leaf o => exact ⟨_, rfl⟩
  | un o a => exact ⟨a.ends (p + 1), by simp only [Tm.ends, Tm.size]; congr 1; omega⟩
  | bin o a b => exact ⟨a.ends (p + 1) ++ b.ends (p + 1 + a.size), by simp only [Tm.ends, Tm.size]; congr 1; omega⟩
theorem rd_at {es A B : List Int} {e : Int} (h : es = A ++ e :: B) {p : Int} (hp : p = (A.length : Int)) : rd es p = e := by
  subst h; subst hp
  unfold rd
  rw [Int.toNat_natCast, List.getD_eq_getElem?_getD, List.getElem?_append_right (Nat.le_refl _)]
  simp
structure Lies (t : Tm) (p : Int) (l : List Op) (es : List Int) : Prop where
  ops : ∃ pre post, l = pre ++ (t.flat ++ post) ∧ p = (pre.length : Int)
  ends : ∃ A B, es = A ++ (t.ends p ++ B) ∧ p = (A.length : Int)
theorem Lies.p0 {t : Tm} {p : Int} {l : List Op} {es : List Int} (h : Lies t p l es) : 0 ≤ p ∧ p + t.size ≤ l.length ∧ p + t.size ≤ es.length := by
  obtain ⟨⟨pre, post, h1, h2⟩, ⟨A, B, h3, h4⟩⟩ := h
  refine ⟨by omega, ?_, ?_⟩
  · rw [h1, List.length_append, List.length_append, t.flat_len]; omega
  · rw [h3, List.length_append, List.length_append, t.ends_len]; omega
theorem Lies.rt {t : Tm} {p : Int} {l : List Op} {es : List Int} (h : Lies t p l es) : rd_T51 l p = t.rt ∧ rd es p = p + t.size := by
  obtain ⟨⟨pre, post, h1, h2⟩, ⟨A, B, h3, h4⟩⟩ := h
  obtain ⟨r1, hr1⟩ := t.flat_rt
  obtain ⟨r2, hr2⟩ := t.ends_rt p
  rw [hr1] at h1
  rw [hr2] at h3
  exact ⟨rdT_at (pre := pre) (post := r1 ++ post) (by rw [h1]; simp) h2, rd_at (A := A) (B := r2 ++ B) (by rw [h3]; simp) h4⟩
theorem Lies.un {o : Op} {a : Tm} {p : Int} {l : List Op} {es : List Int} (h : Lies (.un o a) p l es) : Lies a (p + 1) l es := by
  obtain ⟨⟨pre, post, h1, h2⟩, ⟨A, B, h3, h4⟩⟩ := h
  exact ⟨⟨pre ++ [o], post, by rw [h1]; simp [Tm.flat], by rw [List.length_append, List.length_singleton]; omega⟩, ⟨A ++ [p + 1 + a.size], B, by rw [h3]; simp [Tm.ends], by rw [List.length_append, List.length_singleton]; omega⟩⟩
theorem Lies.left {o : Op} {a b : Tm} {p : Int} {l : List Op} {es : List Int} (h : Lies (.bin o a b) p l es) : Lies a (p + 1) l es := by
  obtain ⟨⟨pre, post, h1, h2⟩, ⟨A, B, h3, h4⟩⟩ := h
  exact ⟨⟨pre ++ [o], b.flat ++ post, by rw [h1]; simp [Tm.flat], by rw [List.length_append, List.length_singleton]; omega⟩, ⟨A ++ [p + 1 + a.size + b.size], b.ends (p + 1 + a.size) ++ B, by rw [h3]; simp [Tm.ends], by rw [List.length_append, List.length_singleton]; omega⟩⟩
theorem Lies.right {o : Op} {a b : Tm} {p : Int} {l : List Op} {es : List Int} (h : Lies (.bin o a b) p l es) : Lies b (p + 1 + a.size) l es := by
  obtain ⟨⟨pre, post, h1, h2⟩, ⟨A, B, h3, h4⟩⟩ := h
  exact ⟨⟨pre ++ [o] ++ a.flat, post, by rw [h1]; simp [Tm.flat], by rw [List.length_append, List.length_append, List.length_singleton, a.flat_len]; omega⟩, ⟨A ++ [p + 1 + a.size + b.size] ++ a.ends (p + 1), B, by rw [h3]; simp [Tm.ends], by rw [List.length_append, List.length_append, List.length_singleton, a.ends_len]; omega⟩⟩
theorem lies_whole (t : Tm) : Lies t 0 t.flat (t.ends 0) := ⟨⟨[], [], by simp, rfl⟩, ⟨[], [], by simp, rfl⟩⟩
end Go.Proofs.YtcoaeefmmnohkaaDoor.Q
end
