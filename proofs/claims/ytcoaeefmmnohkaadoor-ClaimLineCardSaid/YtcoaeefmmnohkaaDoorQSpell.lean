/- What the laws' generator of words makes, and what 'holds' says of them. -/
import Derived.Test.YtcoaeefmmnohkaaDoorQWord
import Derived.Test.YtcoaeefmmnohkaaDoorFSpell
import Derived.Test.YtcoaeefmmnohkaaDoorFOpen
namespace Go.Proofs.YtcoaeefmmnohkaaDoor.Q
open Go.RowKit Go.Proofs.YtcoaeefmmnohkaaDoorW.PrintWords Go.Proofs.YtcoaeefmmnohkaaDoorW.PrintMore Go.Proofs.YtcoaeefmmnohkaaDoor.P
set_option linter.unusedVariables false
theorem letter_is {n : Int} (h : (Lit.int .i64 n).wf = true) : ∃ l, foretellkeep_letter.f n = some l ∧ l.length = 3 := by
  unfold foretellkeep_letter.f
  rw [picked_is h (by decide), Option.bind_some]
  exact ⟨_, rfl, rfl⟩
def intsWf (l : List Int) : Prop := ∀ y ∈ l, (Lit.int .i64 y).wf = true
theorem rd_wf {l : List Int} (h : intsWf l) (i : Nat) (hi : i < l.length) : (Lit.int .i64 (rd l (i : Int))).wf = true := by
  rw [rd_eq hi]
  exact h _ (List.getElem_mem _)
theorem word_is {a b : List Int} (ha : intsWf a) (hb : intsWf b) : ∃ stem loop : List (List Bool), stem.length ≤ 5 ∧ 1 ≤ loop.length ∧ loop.length ≤ 5 ∧ (∀ x ∈ stem ++ loop, x.length = 3) ∧ Ev (fun k => foretellkeep_Word.f k a b) (stem, loop) := by
  have h1 : ∀ (d i : Nat) (stem acc : List (List Bool)), i + d = 5 → acc.length ≤ i → (∀ x ∈ stem, x.length = 3) → (∀ x ∈ acc, x.length = 3) → (i = 0 ∨ acc.length = i) → ∃ loop : List (List Bool), 1 ≤ loop.length ∧ loop.length ≤ 5 ∧ (∀ x ∈ loop, x.length = 3) ∧ Ev (fun k => foretellkeep_Word.l1 k (i : Int) a b stem acc) (stem, loop) := by
    have hend : ∀ (acc : List (List Bool)), acc.length ≤ 5 → (∀ x ∈ acc, x.length = 3) → ∀ stem : List (List Bool), ∃ loop : List (List Bool), 1 ≤ loop.length ∧ loop.length ≤ 5 ∧ (∀ x ∈ loop, x.length = 3) ∧ (if (acc.length : Int) = 0 then (foretellkeep_letter.f 5).bind fun t => some (stem, [t]) else some (stem, acc)) = some (stem, loop) := by
      intro acc h5 hx stem
      by_cases c : (acc.length : Int) = 0
      · obtain ⟨l, hl, h3⟩ := letter_is (n := 5) (by decide)
        rw [if_pos c, hl]
        exact ⟨[l], by simp, by simp, fun x hx => by rw [List.mem_singleton.mp hx]; exact h3, rfl⟩
      · rw [if_neg c]
        exact ⟨acc, by omega, h5, hx, rfl⟩
    intro d
    induction d with
    | zero =>
      intro i stem acc hi hl hs hx hii
      obtain ⟨loop, l1, l2, l3, l4⟩ := hend acc (by omega) hx stem
      refine ⟨loop, l1, l2, l3, Ev.step (f := fun _ => some (stem, loop)) (fun k => ?_) (Ev.now _)⟩
      simp only [foretellkeep_Word.l1]
      by_cases c : (i : Int) < (b.length : Int)
      · rw [if_pos c, if_neg (by omega)]; exact l4
      · rw [if_neg c]; exact l4
    | succ d ih =>
      intro i stem acc hi hl hs hx hii
      by_cases c : (i : Int) < (b.length : Int)
      · obtain ⟨l, hl', h3⟩ := letter_is (rd_wf hb i (by omega))
        obtain ⟨loop, l1, l2, l3, l4⟩ := ih (i + 1) stem (acc ++ [l]) (by omega) (by rw [List.length_append, List.length_singleton]; omega) hs (fun x hx' => by
          rcases List.mem_append.mp hx' with h | h
          · exact hx x h
          · rw [List.mem_singleton.mp h]; exact h3) (.inr (by rw [List.length_append, List.length_singleton]; omega))
        refine ⟨loop, l1, l2, l3, Ev.step (fun k => ?_) l4⟩
        simp only [foretellkeep_Word.l1]
        rw [if_pos c, if_pos (by omega), if_pos (by omega), hl', Option.bind_some, if_pos (by omega), w64 (n := (i : Int) + 1) (by omega) (by omega)]
        rfl
      · obtain ⟨loop, l1, l2, l3, l4⟩ := hend acc (by omega) hx stem
        refine ⟨loop, l1, l2, l3, Ev.step (f := fun _ => some (stem, loop)) (fun k => ?_) (Ev.now _)⟩
        simp only [foretellkeep_Word.l1]
        rw [if_neg c]; exact l4
  have h0 : ∀ (d i : Nat) (acc : List (List Bool)), i + d = 5 → acc.length ≤ i → (∀ x ∈ acc, x.length = 3) → ∃ stem loop : List (List Bool), stem.length ≤ 5 ∧ 1 ≤ loop.length ∧ loop.length ≤ 5 ∧ (∀ x ∈ stem ++ loop, x.length = 3) ∧ Ev (fun k => foretellkeep_Word.l0 k (i : Int) a b acc) (stem, loop) := by
    have hend : ∀ (acc : List (List Bool)), acc.length ≤ 5 → (∀ x ∈ acc, x.length = 3) → ∃ loop : List (List Bool), 1 ≤ loop.length ∧ loop.length ≤ 5 ∧ (∀ x ∈ acc ++ loop, x.length = 3) ∧ Ev (fun k => foretellkeep_Word.j1 k a b acc) (acc, loop) := by
      intro acc h5 hx
      obtain ⟨loop, l1, l2, l3, l4⟩ := h1 5 0 acc [] rfl (Nat.le_refl _) hx (fun x h => by simp at h) (.inl rfl)
      refine ⟨loop, l1, l2, fun x hx' => ?_, Ev.step (fun k => ?_) l4⟩
      · rcases List.mem_append.mp hx' with h | h
        · exact hx x h
        · exact l3 x h
      · simp only [foretellkeep_Word.j1]
        rfl
    intro d
    induction d with
    | zero =>
      intro i acc hi hl hx
      obtain ⟨loop, l1, l2, l3, l4⟩ := hend acc (by omega) hx
      refine ⟨acc, loop, by omega, l1, l2, l3, Ev.step (fun k => ?_) l4⟩
      simp only [foretellkeep_Word.l0]
      by_cases c : (i : Int) < (a.length : Int)
      · rw [if_pos c, if_neg (by omega)]
      · rw [if_neg c]
    | succ d ih =>
      intro i acc hi hl hx
      by_cases c : (i : Int) < (a.length : Int)
      · obtain ⟨l, hl', h3⟩ := letter_is (rd_wf ha i (by omega))
        obtain ⟨stem, loop, s1, l1, l2, l3, l4⟩ := ih (i + 1) (acc ++ [l]) (by omega) (by rw [List.length_append, List.length_singleton]; omega) (fun x hx' => by
          rcases List.mem_append.mp hx' with h | h
          · exact hx x h
          · rw [List.mem_singleton.mp h]; exact h3)
        refine ⟨stem, loop, s1, l1, l2, l3, Ev.step (fun k => ?_) l4⟩
        simp only [foretellkeep_Word.l0]
        rw [if_pos c, if_pos (by omega), if_pos (by omega), hl', Option.bind_some, if_pos (by omega), w64 (n := (i : Int) + 1) (by omega) (by omega)]
        rfl
      · obtain ⟨loop, l1, l2, l3, l4⟩ := hend acc (by omega) hx
        refine ⟨acc, loop, by omega, l1, l2, l3, Ev.step (fun k => ?_) l4⟩
        simp only [foretellkeep_Word.l0]
        rw [if_neg c]
  obtain ⟨stem, loop, s1, l1, l2, l3, l4⟩ := h0 5 0 [] rfl (Nat.le_refl _) (fun x h => by simp at h)
  exact ⟨stem, loop, s1, l1, l2, l3, l4⟩
theorem ok_of {stem loop : List (List Bool)} (h0 : stem.length ≤ 12) (h1 : 1 ≤ loop.length) (h2 : loop.length ≤ 12) (h3 : ∀ x ∈ stem ++ loop, x.length = 3) : WordOk 3 stem loop := ⟨h0, h1, h2, fun x hx => by rw [h3 x hx]; rfl⟩
theorem holds_is {stem loop : List (List Bool)} (hw : WordOk 3 stem loop) {t : Tm} (h : FormT 3 t) (hs : t.size ≤ 60) (ht : t.tempo ≤ 6) :
    ∃ v : Bool, Ev (fun k => foretellkeep_holds.f k t.flat stem loop) (v, true) ∧ (v = true ↔ t.says (uw (stem ++ loop) stem.length 0)) := by
  obtain ⟨r, h1, h2⟩ := moments_is (by decide) (by decide) hw h hs ht
  have hl : 0 < (stem ++ loop).length := by rw [List.length_append]; have := hw.l1; omega
  have e0 : rdOf false r 0 = gd r 0 := rdOf_gd r 0
  refine ⟨gd r 0, ?_, h1.2 0 hl⟩
  unfold foretellkeep_holds.f
  refine Ev.bind (a := (gd r 0, 0)) ?_ (Ev.now _)
  unfold word_Holds.f
  refine Ev.bind h2 ?_
  simp only [if_true]
  rw [if_pos (by rw [h1.1]; omega), e0]
  exact Ev.now _
theorem iff_bool {v : Bool} {p : Prop} (h : v = true ↔ p) : v = false ↔ ¬ p := by rw [← h]; cases v <;> simp

theorem ev_some' {α : Type} {g : Option α} {r : α} (h : g = some r) : Ev (fun _ => g) r := by subst h; exact Ev.now r
end Go.Proofs.YtcoaeefmmnohkaaDoor.Q
