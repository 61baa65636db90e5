/- The law's own graph, made of any numbers, is one that 'Check' lets in. -/
import Derived.Test.YtpkigkmkolbiiaaQReached
import Derived.Test.YtpkigkmkolbiiaaFForetellkeepGraph
namespace Go.Proofs.Ytpkigkmkolbiiaa.Q
open Go.RowKit Go.Proofs.YtpkigkmkolbiiaaW.PrintWords Go.Proofs.YtpkigkmkolbiiaaW.PrintMore Go.Proofs.Ytpkigkmkolbiiaa.P
set_option linter.unusedVariables false
theorem getD_append {α : Type} (l : List α) (x d : α) (i : Nat) : (l ++ [x]).getD i d = if i < l.length then l.getD i d else if i = l.length then x else d := by
  rw [List.getD_eq_getElem?_getD, List.getD_eq_getElem?_getD]
  by_cases c : i < l.length
  · rw [if_pos c, List.getElem?_append_left c]
  · rw [if_neg c, List.getElem?_append_right (by omega)]
    by_cases e : i = l.length
    · subst e
      simp
    · rw [if_neg e, List.getElem?_eq_none (by rw [List.length_singleton]; omega)]
      rfl
theorem shl_lo {y : Int} (h0 : 0 ≤ y) (h1 : y ≤ 6) : 1 ≤ shl .i64 1 y ∧ shl .i64 1 y ≤ 64 := by
  have h : y = 0 ∨ y = 1 ∨ y = 2 ∨ y = 3 ∨ y = 4 ∨ y = 5 ∨ y = 6 := by omega
  rcases h with rfl | rfl | rfl | rfl | rfl | rfl | rfl <;> decide
/-- The graph as it stands behind i spots. -/
structure Gp (n i : Nat) (sp : List S45) (nx : List (List Int)) (ms : List Int) (many : Int) : Prop where
  sl : sp.length = i
  nl : nx.length = i
  ml : ms.length = i
  nr : ∀ l ∈ nx, l.length ≤ 6 ∧ ∀ b ∈ l, 0 ≤ b ∧ b < n
  mr : ∀ m ∈ ms, 0 ≤ m ∧ m < shl .i64 1 many
theorem Gp.more {n i : Nat} {sp : List S45} {nx : List (List Int)} {ms : List Int} {many : Int} (h : Gp n i sp nx ms many) (s : S45) {l : List Int} (hl : l.length ≤ 6 ∧ ∀ b ∈ l, 0 ≤ b ∧ b < n) {m : Int} (hm : 0 ≤ m ∧ m < shl .i64 1 many) : Gp n (i + 1) (sp ++ [s]) (nx ++ [l]) (ms ++ [m]) many := by
  refine ⟨by rw [List.length_append, h.sl]; rfl, by rw [List.length_append, h.nl]; rfl, by rw [List.length_append, h.ml]; rfl, fun x hx => ?_, fun x hx => ?_⟩
  · rcases List.mem_append.mp hx with hx | hx
    · exact h.nr x hx
    · obtain rfl := List.mem_singleton.mp hx
      exact hl
  · rcases List.mem_append.mp hx with hx | hx
    · exact h.mr x hx
    · obtain rfl := List.mem_singleton.mp hx
      exact hm
theorem Gp.gs {n : Nat} {sp : List S45} {nx : List (List Int)} {ms : List Int} {many f : Int} (h : Gp n n sp nx ms many) (hn : n ≤ 20000) (f0 : 0 ≤ f) (f1 : f ≤ n) (m0 : 0 ≤ many) (m1 : many ≤ 6) : Gs n sp f nx ms many := by
  have hmem : ∀ a : Int, rd_L1 nx a = [] ∨ rd_L1 nx a ∈ nx := fun a => by
    unfold rd_L1
    rw [List.getD_eq_getElem?_getD]
    by_cases c : a.toNat < nx.length
    · rw [List.getElem?_eq_getElem c]
      exact .inr (List.getElem_mem c)
    · rw [List.getElem?_eq_none (by omega)]
      exact .inl rfl
  refine ⟨⟨h.nl, hn, fun a a0 a1 b hb => ?_, fun a => ?_⟩, h.sl, f0, f1, h.ml, m0, m1, fun i i0 i1 => ?_⟩
  · rcases hmem a with e | e
    · rw [e] at hb
      exact absurd hb (by simp)
    · exact (h.nr _ e).2 b hb
  · rcases hmem a with e | e
    · rw [e]
      simp
    · have := (h.nr _ e).1
      omega
  · have hl := h.ml
    have hi : i.toNat < ms.length := by omega
    have e : rd ms i = ms[i.toNat] := by
      unfold rd
      rw [List.getD_eq_getElem?_getD, List.getElem?_eq_getElem hi]
      rfl
    rw [e]
    exact h.mr _ (List.getElem_mem hi)
theorem graph_is6 (rows : List (List Int)) (sets : List Int) (ft mt : Int) (hrows : ∀ y ∈ rows, (y.length ≤ maxLen ∧ ∀ z ∈ y, (Lit.int .i64 z).wf = true)) (hrl : rows.length ≤ maxLen) (hsets : ∀ y ∈ sets, (Lit.int .i64 y).wf = true) (hf : (Lit.int .i64 ft).wf = true) (hm : (Lit.int .i64 mt).wf = true) :
    ∃ sp f nx ms many, Ev (fun k => foretellkeep_Graph.f k rows sets ft mt) (sp, f, nx, ms, many) ∧ Gs (min rows.length 20) sp f nx ms many ∧ many < 4 ∧ (rows.length = 0 ∨ 1 ≤ f) ∧ ∀ l ∈ nx, l.length ≤ 6 := by
  have hmx : maxLen = 9223372036854775807 := rfl
  have m0 := pk_lo mt (m := 4) (by decide)
  have m1 := pk_hi mt (m := 4) (by decide)
  obtain ⟨sh0, sh1⟩ := shl_lo (y := pk mt 4) m0 (by omega)
  generalize hmany : pk mt 4 = many at m0 m1 sh0 sh1
  have hn : mn (rows.length : Int) 20 = ((min rows.length 20 : Nat) : Int) := by rw [mn_eq]; omega
  generalize hnn : min rows.length 20 = n at hn
  have hloop : ∀ (d i : Nat) (sp : List S45) (nx : List (List Int)) (ms : List Int) (f : Int), i + d = n → Gp n i sp nx ms many →
      ∃ sp' nx' ms', Ev (fun k => foretellkeep_Graph.l0 k (n : Int) (i : Int) rows sets ft mt sp f nx ms many) (sp', f, nx', ms', many) ∧ Gp n n sp' nx' ms' many := by
    intro d
    induction d with
    | zero =>
      intro i sp nx ms f hi hg
      obtain rfl : i = n := by omega
      refine ⟨sp, nx, ms, Ev.step (f := fun _ => some (sp, f, nx, ms, many)) (fun k => ?_) (Ev.now _), hg⟩
      simp only [foretellkeep_Graph.l0]
      rw [if_neg (by omega)]
    | succ d ih =>
      intro i sp nx ms f hi hg
      have hil : i < rows.length := by omega
      have hrow := hrows rows[i] (List.getElem_mem hil)
      have hrd : rd_L1 rows (i : Int) = rows[i] := rdL_eq hil
      generalize rows[i] = row at hrow hrd
      have hs := hg.sl
      have hnl := hg.nl
      have hml := hg.ml
      have hn20 : n ≤ 20 := by omega
      -- what stands at the spot's end
      have hend : ∀ (l : List Int) (q : Nat), ¬ (q < row.length ∧ q < 6) → (l.length ≤ 6 ∧ ∀ b ∈ l, 0 ≤ b ∧ b < n) → ∃ sp' nx' ms', Ev (fun k => foretellkeep_Graph.l1 k (n : Int) (i : Int) l (q : Int) rows sets ft mt sp f nx ms many) (sp', f, nx', ms', many) ∧ Gp n n sp' nx' ms' many := by
        intro l q hq hl
        by_cases hsl : i < sets.length
        · have hp := picked_is (n := rd sets (i : Int)) (m := shl .i64 1 many) (by rw [rd_eq hsl]; exact hsets _ (List.getElem_mem hsl)) (by omega)
          have p0 := pk_lo (rd sets (i : Int)) (m := shl .i64 1 many) (by omega)
          have p1 := pk_hi (rd sets (i : Int)) (m := shl .i64 1 many) (by omega)
          generalize pk (rd sets (i : Int)) (shl .i64 1 many) = m at hp p0 p1
          obtain ⟨sp', nx', ms', he, hg'⟩ := ih (i + 1) (sp ++ [⟨(i : Int), 0⟩]) (nx ++ [l]) (ms ++ [m]) f (by omega) (hg.more _ hl ⟨p0, p1⟩)
          refine ⟨sp', nx', ms', Ev.step (f := fun k => foretellkeep_Graph.l0 k (n : Int) ((i + 1 : Nat) : Int) rows sets ft mt (sp ++ [⟨(i : Int), 0⟩]) f (nx ++ [l]) (ms ++ [m]) many) (fun k => ?_) he, hg'⟩
          simp only [foretellkeep_Graph.l1, hrd]
          rw [if_pos (by omega), if_pos (by omega), hp, Option.bind_some]
          rw [if_pos (show ((i : Int) < (sets.length : Int)) by omega), if_pos m0, if_pos (show sp.length < 8796093022208 by omega), if_pos (show nx.length < 5864062014805 by omega), if_pos (show ms.length < 17592186044416 by omega), w64 (n := (i : Int) + 1) (by omega) (by omega)]
          by_cases c1 : (q : Int) < (row.length : Int)
          · rw [if_pos c1, if_neg (by omega)]
            rfl
          · rw [if_neg c1]
            rfl
        · obtain ⟨sp', nx', ms', he, hg'⟩ := ih (i + 1) (sp ++ [⟨(i : Int), 0⟩]) (nx ++ [l]) (ms ++ [0]) f (by omega) (hg.more _ hl ⟨Int.le_refl _, by omega⟩)
          refine ⟨sp', nx', ms', Ev.step (f := fun k => foretellkeep_Graph.l0 k (n : Int) ((i + 1 : Nat) : Int) rows sets ft mt (sp ++ [⟨(i : Int), 0⟩]) f (nx ++ [l]) (ms ++ [0]) many) (fun k => ?_) he, hg'⟩
          simp only [foretellkeep_Graph.l1, hrd]
          rw [if_pos (by omega), if_pos (by omega)]
          rw [if_neg (show ¬ ((i : Int) < (sets.length : Int)) by omega), if_pos (show sp.length < 8796093022208 by omega), if_pos (show nx.length < 5864062014805 by omega), if_pos (show ms.length < 17592186044416 by omega), w64 (n := (i : Int) + 1) (by omega) (by omega)]
          by_cases c1 : (q : Int) < (row.length : Int)
          · rw [if_pos c1, if_neg (by omega)]
            rfl
          · rw [if_neg c1]
            rfl
      have hin : ∀ (e q : Nat) (l : List Int), q + e = 6 → l.length = q → (∀ b ∈ l, 0 ≤ b ∧ b < n) → ∃ sp' nx' ms', Ev (fun k => foretellkeep_Graph.l1 k (n : Int) (i : Int) l (q : Int) rows sets ft mt sp f nx ms many) (sp', f, nx', ms', many) ∧ Gp n n sp' nx' ms' many := by
        intro e
        induction e with
        | zero =>
          intro q l hq hll hb
          exact hend l q (by omega) ⟨by omega, hb⟩
        | succ e ihe =>
          intro q l hq hll hb
          by_cases hql : q < row.length
          · have hp := picked_is (n := rd row (q : Int)) (m := (n : Int)) (by rw [rd_eq hql]; exact hrow.2 _ (List.getElem_mem hql)) (by omega)
            have p0 := pk_lo (rd row (q : Int)) (m := (n : Int)) (by omega)
            have p1 := pk_hi (rd row (q : Int)) (m := (n : Int)) (by omega)
            generalize pk (rd row (q : Int)) (n : Int) = b at hp p0 p1
            obtain ⟨sp', nx', ms', he, hg'⟩ := ihe (q + 1) (l ++ [b]) (by omega) (by rw [List.length_append, hll]; rfl) (fun x hx => by
              rcases List.mem_append.mp hx with hx | hx
              · exact hb x hx
              · obtain rfl := List.mem_singleton.mp hx
                exact ⟨p0, p1⟩)
            refine ⟨sp', nx', ms', Ev.step (f := fun k => foretellkeep_Graph.l1 k (n : Int) (i : Int) (l ++ [b]) ((q + 1 : Nat) : Int) rows sets ft mt sp f nx ms many) (fun k => ?_) he, hg'⟩
            simp only [foretellkeep_Graph.l1, hrd]
            rw [if_pos (by omega), if_pos (by omega), if_pos (show (q : Int) < (row.length : Int) by omega), if_pos (show (q : Int) < 6 by omega), if_pos (by omega), hp, Option.bind_some, if_pos (by omega), w64 (n := (q : Int) + 1) (by omega) (by omega)]
            rfl
          · exact hend l q (by omega) ⟨by omega, hb⟩
      obtain ⟨sp', nx', ms', he, hg'⟩ := hin 6 0 [] rfl rfl (fun b hb => absurd hb (by simp))
      refine ⟨sp', nx', ms', Ev.step (f := fun k => foretellkeep_Graph.l1 k (n : Int) (i : Int) [] ((0 : Nat) : Int) rows sets ft mt sp f nx ms many) (fun k => ?_) he, hg'⟩
      simp only [foretellkeep_Graph.l0]
      rw [if_pos (by omega)]
      rfl
  have hz : Gp n 0 [] [] [] many := ⟨rfl, rfl, rfl, fun l hl => absurd hl (by simp), fun l hl => absurd hl (by simp)⟩
  by_cases hn0 : 0 < n
  · have hp := picked_is (n := ft) (m := (n : Int)) hf (by omega)
    have p0 := pk_lo ft (m := (n : Int)) (by omega)
    have p1 := pk_hi ft (m := (n : Int)) (by omega)
    generalize pk ft (n : Int) = fs at hp p0 p1
    obtain ⟨sp', nx', ms', he, hg'⟩ := hloop n 0 [] [] [] (fs + 1) (by omega) hz
    refine ⟨sp', fs + 1, nx', ms', many, ?_, hg'.gs (by omega) (by omega) (by omega) m0 (by omega), m1, .inr (by omega), fun l hl => (hg'.nr l hl).1⟩
    refine Ev.congr (f := fun k => foretellkeep_Graph.j0 k (n : Int) rows sets ft mt (fs + 1) many) (fun k => ?_) (Ev.step (f := fun k => foretellkeep_Graph.l0 k (n : Int) ((0 : Nat) : Int) rows sets ft mt [] (fs + 1) [] [] many) (fun k => ?_) he)
    · unfold foretellkeep_Graph.f
      rw [picked_is hm (by decide), Option.bind_some, hmany, hn, if_pos (by omega), hp, Option.bind_some, w64 (n := fs + 1) (by omega) (by omega)]
    · simp only [foretellkeep_Graph.j0]
      rfl
  · obtain ⟨sp', nx', ms', he, hg'⟩ := hloop n 0 [] [] [] 0 (by omega) hz
    refine ⟨sp', 0, nx', ms', many, ?_, hg'.gs (by omega) (by omega) (by omega) m0 (by omega), m1, .inl (by omega), fun l hl => (hg'.nr l hl).1⟩
    refine Ev.congr (f := fun k => foretellkeep_Graph.j0 k (n : Int) rows sets ft mt 0 many) (fun k => ?_) (Ev.step (f := fun k => foretellkeep_Graph.l0 k (n : Int) ((0 : Nat) : Int) rows sets ft mt [] 0 [] [] many) (fun k => ?_) he)
    · unfold foretellkeep_Graph.f
      rw [picked_is hm (by decide), Option.bind_some, hmany, hn, if_neg (by omega)]
    · simp only [foretellkeep_Graph.j0]
      rfl
theorem graph_is (rows : List (List Int)) (sets : List Int) (ft mt : Int) (hrows : ∀ y ∈ rows, (y.length ≤ maxLen ∧ ∀ z ∈ y, (Lit.int .i64 z).wf = true)) (hrl : rows.length ≤ maxLen) (hsets : ∀ y ∈ sets, (Lit.int .i64 y).wf = true) (hf : (Lit.int .i64 ft).wf = true) (hm : (Lit.int .i64 mt).wf = true) :
    ∃ sp f nx ms many, Ev (fun k => foretellkeep_Graph.f k rows sets ft mt) (sp, f, nx, ms, many) ∧ Gs (min rows.length 20) sp f nx ms many ∧ many < 4 ∧ (rows.length = 0 ∨ 1 ≤ f) := by
  obtain ⟨sp, f, nx, ms, many, h1, h2, h3, h4, _⟩ := graph_is6 rows sets ft mt hrows hrl hsets hf hm
  exact ⟨sp, f, nx, ms, many, h1, h2, h3, h4⟩
end Go.Proofs.Ytpkigkmkolbiiaa.Q
