-- PACKED by pack.py of this repo: QWay
import Derived.Test.YtpkigkmkolbiiaaK18
import Derived.Test.YtpkigkmkolbiiaaK14
section
namespace Go.Proofs.Ytpkigkmkolbiiaa.Q
open Go.RowKit Go.Proofs.YtpkigkmkolbiiaaW.PrintWords Go.Proofs.YtpkigkmkolbiiaaW.PrintMore Go.Proofs.Ytpkigkmkolbiiaa.P
set_option linter.unusedVariables false
def Chain (nx : List (List Int)) : Int → List Int → Prop
  | _, [] => True
  | a, b :: l => b ∈ rd_L1 nx a ∧ Chain nx b l
inductive RchIn (nx : List (List Int)) (ins : Int → Bool) : Int → Int → Prop
  | refl (a : Int) : RchIn nx ins a a
  | tail {a b c : Int} : RchIn nx ins a b → c ∈ rd_L1 nx b → ins c = true → RchIn nx ins a c
def BkOk (n : Nat) (nx : List (List Int)) (ins : Int → Bool) (fr : List Int) : Way.Bk → Prop
  | [] => True
  | p :: b => Way.has b p.1 = false ∧ (0 ≤ p.1 ∧ p.1 < (n : Int)) ∧ (p.2 = -1 ∧ p.1 ∈ fr ∨ Way.has b p.2 = true ∧ p.1 ∈ rd_L1 nx p.2 ∧ ins p.1 = true) ∧ BkOk n nx ins fr b
theorem nodup_le : ∀ (n : Nat) (l : List Int), l.Nodup → (∀ x ∈ l, 0 ≤ x ∧ x < (n : Int)) → l.length ≤ n
  | 0, [], _, _ => Nat.le_refl _
  | 0, x :: _, _, h => by have := h x List.mem_cons_self; omega
  | n + 1, l, hd, h => by
    by_cases c : (n : Int) ∈ l
    · have h1 := nodup_le n (l.erase (n : Int)) (hd.erase _) (fun x hx => by
        obtain ⟨a, b⟩ := (hd.mem_erase_iff).1 hx
        have := h x b
        omega)
      rw [List.length_erase_of_mem c] at h1
      omega
    · have := nodup_le n l hd (fun x hx => by
        have := h x hx
        have : x ≠ (n : Int) := fun e => c (e ▸ hx)
        omega)
      omega
section
variable {n : Nat} {nx : List (List Int)} {ins wanted : Int → Bool} {fr : List Int}
theorem has_mem (k : Int) : ∀ b : Way.Bk, Way.has b k = true ↔ k ∈ b.map Prod.fst
  | [] => by simp [Way.has]
  | p :: b => by
    simp only [Way.has, Bool.or_eq_true, beq_iff_eq, List.map_cons, List.mem_cons, has_mem k b]
    constructor
    · rintro (h | h)
      · exact .inl h.symm
      · exact .inr h
    · rintro (h | h)
      · exact .inl h.symm
      · exact .inr h
theorem has_cons {p : Int × Int} {b : Way.Bk} {k : Int} : Way.has (p :: b) k = true ↔ p.1 = k ∨ Way.has b k = true := by
  simp only [Way.has, Bool.or_eq_true, beq_iff_eq]
theorem BkOk.rng {b : Way.Bk} (h : BkOk n nx ins fr b) {k : Int} (hk : Way.has b k = true) : 0 ≤ k ∧ k < (n : Int) := by
  induction b with
  | nil => simp [Way.has] at hk
  | cons p b ih =>
    rcases has_cons.1 hk with rfl | hk
    · exact h.2.1
    · exact ih h.2.2.2 hk
theorem BkOk.nodup {b : Way.Bk} (h : BkOk n nx ins fr b) : (b.map Prod.fst).Nodup := by
  induction b with
  | nil => exact List.nodup_nil
  | cons p b ih =>
    rw [List.map_cons, List.nodup_cons]
    refine ⟨fun hm => ?_, ih h.2.2.2⟩
    have h1 := h.1
    rw [(has_mem _ _).2 hm] at h1
    exact absurd h1 (by simp)
theorem BkOk.len {b : Way.Bk} (h : BkOk n nx ins fr b) : b.length ≤ n := by
  have := nodup_le n (b.map Prod.fst) h.nodup (fun x hx => h.rng ((has_mem _ _).2 hx))
  rwa [List.length_map] at this
theorem path_is (hn : n ≤ 20000) (B : Way.Bk) : ∀ (b : Way.Bk), BkOk n nx ins fr b → ∀ (k : Int) (l : List Int), (∀ j, Way.has b j = true → Way.at_ B j = Way.at_ b j) → Way.has b k = true → Chain nx k l → (∀ i ∈ l, ins i = true) → l.length + b.length ≤ 1000000 →
    ∃ s t, (∀ m, b.length + 2 ≤ m → Way.path n B m k l = some (s :: t)) ∧ s ∈ fr ∧ Chain nx s t ∧ (∀ i ∈ t, ins i = true) ∧ (s :: t).length ≤ l.length + b.length ∧ (s :: t).getLast? = (k :: l).getLast? := by
  intro b
  induction b with
  | nil => intro _ k l _ hk; simp [Way.has] at hk
  | cons p b ih =>
    intro h k l hB hk hc hi hl
    have hsub : ∀ j, Way.has b j = true → Way.at_ B j = Way.at_ b j := fun j hj => by
      rw [hB j (has_cons.2 (.inr hj))]
      unfold Way.at_
      rw [if_neg]
      · cases b <;> rfl
      · intro e
        rw [← e, h.1] at hj
        exact absurd hj (by simp)
    rw [List.length_cons] at hl
    by_cases c : p.1 = k
    · subst c
      have hat : Way.at_ B p.1 = p.2 := by
        rw [hB p.1 hk]
        unfold Way.at_
        rw [if_pos rfl]
      obtain ⟨h1, ⟨k0, k1⟩, hor, hbk⟩ := h
      rcases hor with ⟨e, hf⟩ | ⟨hb, hr, hi1⟩
      · refine ⟨p.1, l, fun m hm => ?_, hf, hc, hi, by simp only [List.length_cons]; omega, rfl⟩
        obtain ⟨m, rfl⟩ : ∃ q, m = q + 2 := ⟨m - 2, by omega⟩
        unfold Way.path
        rw [if_pos k0, if_pos ⟨k1, by omega⟩, hat, e]
        unfold Way.path
        rw [if_neg (by omega)]
      · obtain ⟨s, t, a1, a2, a3, a4, a5, a6⟩ := ih hbk p.2 (p.1 :: l) hsub hb ⟨hr, hc⟩ (fun i hm => by
          rcases List.mem_cons.1 hm with rfl | hm
          · exact hi1
          · exact hi i hm) (by simp only [List.length_cons]; omega)
        refine ⟨s, t, fun m hm => ?_, a2, a3, a4, by simp only [List.length_cons] at a5 ⊢; omega, by rw [a6, List.getLast?_cons_cons]⟩
        obtain ⟨m, rfl⟩ : ∃ q, m = q + 1 := ⟨m - 1, by simp only [List.length_cons] at hm; omega⟩
        unfold Way.path
        rw [if_pos k0, if_pos ⟨k1, by omega⟩, hat]
        exact a1 m (by simp only [List.length_cons] at hm; omega)
    · have hk2 : Way.has b k = true := (has_cons.1 hk).resolve_left c
      obtain ⟨s, t, a1, a2, a3, a4, a5, a6⟩ := ih h.2.2.2 k l hsub hk2 hc hi (by omega)
      exact ⟨s, t, fun m hm => a1 m (by simp only [List.length_cons] at hm; omega), a2, a3, a4, by simp only [List.length_cons] at a5 ⊢; omega, a6⟩
structure Wb (n : Nat) (nx : List (List Int)) (ins wanted : Int → Bool) (fr : List Int) (t : List Int) (b : Way.Bk) (y : Int) (rest : List Int) : Prop where
  ok : BkOk n nx ins fr b
  td : ∀ i ∈ t, Way.has b i = true
  tl : t.length ≤ b.length
  nw : ∀ j, Way.has b j = true → wanted j = false
  cls : ∀ j, Way.has b j = true → ∀ c ∈ rd_L1 nx j, ins c = true → Way.has b c = true ∨ j ∈ t ∨ (j = y ∧ c ∈ rest)
  fr_ : ∀ s ∈ fr, Way.has b s = true
theorem row_is (g : Gr n nx) (y : Int) : ∀ (rest t : List Int) (b : Way.Bk), Wb n nx ins wanted fr t b y rest → Way.has b y = true → (∀ c ∈ rest, c ∈ rd_L1 nx y) →
    (∃ t' b', Way.row n ins wanted y rest t b = some (.inl (t', b')) ∧ Wb n nx ins wanted fr t' b' y [] ∧ t.length + b'.length = t'.length + b.length) ∨
    ∃ k b', Way.row n ins wanted y rest t b = some (.inr (k, b')) ∧ BkOk n nx ins fr b' ∧ Way.has b' k = true ∧ wanted k = true := by
  have hn := g.le
  intro rest
  induction rest with
  | nil => intro t b h _ _; exact .inl ⟨t, b, rfl, h, rfl⟩
  | cons k r ih =>
    intro t b h hy hr
    have hkr := hr k List.mem_cons_self
    obtain ⟨y0, y1⟩ := h.ok.rng hy
    obtain ⟨k0, k1⟩ := g.ok y y0 y1 k hkr
    have hbl := h.ok.len
    have htl := h.tl
    have hc : 0 ≤ k ∧ k < (n : Int) ∧ t.length ≤ 1000000 ∧ b.length ≤ 1000000 := ⟨k0, k1, by omega, by omega⟩
    have hskip : (Way.has b k = true ∨ ¬ ins k = true) → Wb n nx ins wanted fr t b y r := fun hs => by
      refine ⟨h.ok, h.td, h.tl, h.nw, fun j hj c hcc hic => ?_, h.fr_⟩
      rcases h.cls j hj c hcc hic with a | a | ⟨a, a2⟩
      · exact .inl a
      · exact .inr (.inl a)
      · rcases List.mem_cons.1 a2 with rfl | a2
        · rcases hs with hs | hs
          · exact .inl hs
          · exact absurd hic hs
        · exact .inr (.inr ⟨a, a2⟩)
    by_cases c1 : Way.has b k = true
    · rw [Way.row, if_pos hc, if_pos c1]
      exact ih t b (hskip (.inl c1)) hy (fun c hcc => hr c (List.mem_cons_of_mem _ hcc))
    · by_cases c2 : ins k = true
      · have hok : BkOk n nx ins fr ((k, y) :: b) := ⟨by simpa using c1, ⟨k0, k1⟩, .inr ⟨hy, hkr, c2⟩, h.ok⟩
        by_cases c3 : wanted k = true
        · rw [Way.row, if_pos hc, if_neg c1, if_pos c2, if_pos c3]
          exact .inr ⟨k, _, rfl, hok, has_cons.2 (.inl rfl), c3⟩
        · rw [Way.row, if_pos hc, if_neg c1, if_pos c2, if_neg c3]
          have hw : Wb n nx ins wanted fr (t ++ [k]) ((k, y) :: b) y r := by
            refine ⟨hok, fun i hi => ?_, by simp only [List.length_append, List.length_cons, List.length_nil]; omega, fun j hj => ?_, fun j hj c hcc hic => ?_, fun s hs => has_cons.2 (.inr (h.fr_ s hs))⟩
            · rcases List.mem_append.1 hi with hi | hi
              · exact has_cons.2 (.inr (h.td i hi))
              · obtain rfl := List.mem_singleton.1 hi
                exact has_cons.2 (.inl rfl)
            · rcases has_cons.1 hj with rfl | hj
              · simpa using c3
              · exact h.nw j hj
            · rcases has_cons.1 hj with rfl | hj
              · exact .inr (.inl (by simp))
              · rcases h.cls j hj c hcc hic with a | a | ⟨a, a2⟩
                · exact .inl (has_cons.2 (.inr a))
                · exact .inr (.inl (List.mem_append_left _ a))
                · rcases List.mem_cons.1 a2 with rfl | a2
                  · exact .inl (has_cons.2 (.inl rfl))
                  · exact .inr (.inr ⟨a, a2⟩)
          rcases ih _ _ hw (has_cons.2 (.inr hy)) (fun c hcc => hr c (List.mem_cons_of_mem _ hcc)) with ⟨t', b', e, hw', hl⟩ | hx
          · refine .inl ⟨t', b', e, hw', ?_⟩
            simp only [List.length_append, List.length_cons, List.length_nil] at hl
            omega
          · exact .inr hx
      · rw [Way.row, if_pos hc, if_neg c1, if_neg c2]
        exact ih t b (hskip (.inr c2)) hy (fun c hcc => hr c (List.mem_cons_of_mem _ hcc))
def Found (n : Nat) (nx : List (List Int)) (ins wanted : Int → Bool) (fr r : List Int) : Prop :=
  ∃ s t, r = s :: t ∧ s ∈ fr ∧ Chain nx s t ∧ (∀ i ∈ t, ins i = true) ∧ r.length ≤ n ∧ ∃ z, (s :: t).getLast? = some z ∧ wanted z = true
theorem wmain_is (g : Gr n nx) : ∀ (M : Nat) (t : List Int) (b : Way.Bk) (y : Int), Wb n nx ins wanted fr t b y [] → t.length + n ≤ M + b.length →
    ∃ r, (∀ d m, M + 1 ≤ m → n + 2 ≤ d → Way.main nx ins wanted d m t b = some r) ∧ ((r = [] ∧ ∀ s ∈ fr, ∀ j, RchIn nx ins s j → wanted j = false) ∨ Found n nx ins wanted fr r) := by
  have hn := g.le
  intro M
  induction M with
  | zero =>
    intro t b y h hM
    have hbl := h.ok.len
    obtain rfl : t = [] := List.eq_nil_of_length_eq_zero (by omega)
    refine ⟨[], fun d m hm _ => ?_, .inl ⟨rfl, fun s hs j hj => ?_⟩⟩
    · obtain ⟨m, rfl⟩ : ∃ q, m = q + 1 := ⟨m - 1, by omega⟩
      rfl
    · refine h.nw j ?_
      induction hj with
      | refl => exact h.fr_ _ hs
      | tail _ hc hi ih =>
        rcases h.cls _ ih _ hc hi with a | a | ⟨_, a⟩
        · exact a
        · cases a
        · cases a
  | succ M ih =>
    intro t b y h hM
    cases t with
    | nil =>
      refine ⟨[], fun d m hm _ => ?_, .inl ⟨rfl, fun s hs j hj => ?_⟩⟩
      · obtain ⟨m, rfl⟩ : ∃ q, m = q + 1 := ⟨m - 1, by omega⟩
        rfl
      · refine h.nw j ?_
        induction hj with
        | refl => exact h.fr_ _ hs
        | tail _ hc hi ih =>
          rcases h.cls _ ih _ hc hi with a | a | ⟨_, a⟩
          · exact a
          · cases a
          · cases a
    | cons i t =>
      have hi := h.td i List.mem_cons_self
      have hir := h.ok.rng hi
      have htl := h.tl
      rw [List.length_cons] at hM htl
      have hw : Wb n nx ins wanted fr t b i (rd_L1 nx i) := by
        refine ⟨h.ok, fun x hx => h.td x (List.mem_cons_of_mem _ hx), by omega, h.nw, fun j hj c hcc hic => ?_, h.fr_⟩
        rcases h.cls j hj c hcc hic with a | a | ⟨_, a⟩
        · exact .inl a
        · rcases List.mem_cons.1 a with rfl | a
          · exact .inr (.inr ⟨rfl, hcc⟩)
          · exact .inr (.inl a)
        · cases a
      have hstep : ∀ d m, Way.main nx ins wanted d (m + 1) (i :: t) b = (Way.row n ins wanted i (rd_L1 nx i) t b).bind fun x => match x with
          | .inl p => Way.main nx ins wanted d m p.1 p.2
          | .inr p => Way.path n p.2 d p.1 [] := fun d m => by
        rw [Way.main, g.len, if_pos hir]
        rfl
      rcases row_is g i _ t b hw hi (fun _ hc => hc) with ⟨t', b', e, hw', hl⟩ | ⟨k, b', e, hok, hk, hwk⟩
      · obtain ⟨r, hr, hr2⟩ := ih t' b' i hw' (by omega)
        refine ⟨r, fun d m hm hd => ?_, hr2⟩
        obtain ⟨m, rfl⟩ : ∃ q, m = q + 1 := ⟨m - 1, by omega⟩
        rw [hstep, e]
        exact hr d m (by omega) hd
      · have hbl := hok.len
        obtain ⟨s, t2, a1, a2, a3, a4, a5, a6⟩ := path_is hn b' b' hok k [] (fun _ _ => rfl) hk trivial (fun _ hx => by cases hx) (by simp only [List.length_nil]; omega)
        refine ⟨s :: t2, fun d m hm hd => ?_, .inr ⟨s, t2, rfl, a2, a3, a4, by simp only [List.length_nil] at a5; omega, k, a6.trans rfl, hwk⟩⟩
        obtain ⟨m, rfl⟩ : ∃ q, m = q + 1 := ⟨m - 1, by omega⟩
        rw [hstep, e]
        exact a1 d (by omega)
theorem start_is (g : Gr n nx) : ∀ (r : List Int) (b : Way.Bk), BkOk n nx ins fr b → (∀ j, Way.has b j = true → wanted j = false) → r.Nodup → (∀ x ∈ r, Way.has b x = false ∧ x ∈ fr ∧ 0 ≤ x ∧ x < (n : Int)) →
    (∃ b', Way.start n wanted r b = some (.inl b') ∧ BkOk n nx ins fr b' ∧ (∀ j, Way.has b' j = true → wanted j = false) ∧ b'.length = b.length + r.length ∧ ∀ j, Way.has b' j = true ↔ Way.has b j = true ∨ j ∈ r) ∨
    ∃ i, Way.start n wanted r b = some (.inr i) ∧ i ∈ fr ∧ wanted i = true := by
  have hn := g.le
  intro r
  induction r with
  | nil => intro b h hw _ _; exact .inl ⟨b, rfl, h, hw, rfl, fun j => by simp⟩
  | cons i r ih =>
    intro b h hw hd hr
    obtain ⟨h1, h2, h3, h4⟩ := hr i List.mem_cons_self
    have hbl := h.len
    rw [List.nodup_cons] at hd
    rw [Way.start, if_pos ⟨h3, h4, by omega⟩]
    by_cases c : wanted i = true
    · rw [if_pos c]
      exact .inr ⟨i, rfl, h2, c⟩
    · rw [if_neg c]
      rcases ih ((i, -1) :: b) ⟨h1, ⟨h3, h4⟩, .inl ⟨rfl, h2⟩, h⟩ (fun j hj => by
          rcases has_cons.1 hj with rfl | hj
          · simpa using c
          · exact hw j hj) hd.2 (fun x hx => by
          obtain ⟨a, b, c⟩ := hr x (List.mem_cons_of_mem _ hx)
          refine ⟨?_, b, c⟩
          rw [Bool.eq_false_iff]
          intro hh
          rcases has_cons.1 hh with e | hh
          · exact hd.1 ((show i = x from e) ▸ hx)
          · rw [a] at hh
            exact absurd hh (by simp)) with ⟨b', e, a1, a2, a3, a4⟩ | hx
      · refine .inl ⟨b', e, a1, a2, by simp only [List.length_cons] at a3 ⊢; omega, fun j => ?_⟩
        rw [a4 j, has_cons, List.mem_cons]
        constructor
        · rintro ((h | h) | h)
          · exact .inr (.inl h.symm)
          · exact .inl h
          · exact .inr (.inr h)
        · rintro (h | h | h)
          · exact .inl (.inr h)
          · exact .inl (.inl h.symm)
          · exact .inr h
      · exact .inr hx
theorem way_is (g : Gr n nx) (hd : fr.Nodup) (hr : ∀ x ∈ fr, 0 ≤ x ∧ x < (n : Int)) :
    ∃ r, Ev (fun d => Way.way nx ins wanted d fr) r ∧ ((r = [] ∧ ∀ s ∈ fr, ∀ j, RchIn nx ins s j → wanted j = false) ∨ Found n nx ins wanted fr r) := by
  rcases start_is (ins := ins) (wanted := wanted) (fr := fr) g fr [] trivial (fun j hj => by simp [Way.has] at hj) hd (fun x hx => ⟨rfl, hx, hr x hx⟩) with ⟨b, e, a1, a2, a3, a4⟩ | ⟨i, e, hi, hw⟩
  · have hh : ∀ j, Way.has b j = true ↔ j ∈ fr := fun j => by rw [a4 j]; simp [Way.has]
    have hbl := a1.len
    rw [List.length_nil, Nat.zero_add] at a3
    obtain ⟨r, h1, h2⟩ := wmain_is g n fr b (-1) ⟨a1, fun i hi => (hh i).2 hi, by omega, a2, fun j hj _ _ _ => .inr (.inl ((hh j).1 hj)), fun s hs => (hh s).2 hs⟩ (by omega)
    refine ⟨r, ⟨n + 2, fun d hd => ?_⟩, h2⟩
    unfold Way.way
    rw [g.len, e]
    exact h1 d d (by omega) hd
  · refine ⟨[i], ⟨0, fun d _ => ?_⟩, .inr ⟨i, [], rfl, hi, trivial, (fun _ hx => nomatch hx), ?_, i, rfl, hw⟩⟩
    · unfold Way.way
      rw [g.len, e]
      rfl
    · have := hr i hi
      simp only [List.length_cons, List.length_nil]
      omega
end
end Go.Proofs.Ytpkigkmkolbiiaa.Q
end
