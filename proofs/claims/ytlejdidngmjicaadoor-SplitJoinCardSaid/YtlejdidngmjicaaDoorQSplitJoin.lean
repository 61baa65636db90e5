/- The plain law of SplitJoin: an op and its parts are the term. -/
import Derived.Test.YtlejdidngmjicaaDoorLSplitJoin
import Derived.Test.YtlejdidngmjicaaDoorQGen
import Derived.Test.YtlejdidngmjicaaDoorQEndsNest
namespace Go.Proofs.YtlejdidngmjicaaDoor.Q
open Go.RowKit Go.Proofs.YtlejdidngmjicaaDoorW.PrintWords Go.Proofs.YtlejdidngmjicaaDoorW.PrintMore Go.Proofs.YtlejdidngmjicaaDoor.P
set_option linter.unusedVariables false
def Tm.parts : Tm → List Tm
  | .leaf _ => []
  | .un _ a => [a]
  | .bin _ a b => [a, b]
def Tm.op : Tm → Op
  | .leaf o => o
  | .un o _ => o
  | .bin o _ _ => o
theorem Tm.flat_parts (t : Tm) : t.flat = t.op :: (t.parts.flatMap Tm.flat) := by cases t <;> simp [Tm.flat, Tm.parts, Tm.op]
theorem Tm.ok_parts {t : Tm} (h : t.ok) : ∀ a ∈ t.parts, a.ok := by
  cases t with
  | leaf o => intro a ha; simp [Tm.parts] at ha
  | un o a =>
    intro x hx
    simp only [Tm.parts, List.mem_singleton] at hx
    subst hx
    exact h.2.2.2
  | bin o a b =>
    intro x hx
    simp only [Tm.parts, List.mem_cons, List.not_mem_nil, or_false] at hx
    rcases hx with rfl | rfl
    · exact h.2.2.2.1
    · exact h.2.2.2.2
theorem same_is (l : List Op) (h : l.length ≤ 1000000) : Ev (fun k => foretellkeep_sameOps.f k l l) true := by
  have hl : ∀ (d i : Nat), i + d = l.length → Ev (fun k => foretellkeep_sameOps.l0 k l l (i : Int)) true := by
    intro d
    induction d with
    | zero =>
      intro i hi
      refine Ev.step (f := fun _ => some true) (fun k => ?_) (Ev.now _)
      simp only [foretellkeep_sameOps.l0]
      rw [if_neg (by omega)]
    | succ d ih =>
      intro i hi
      refine Ev.step (f := fun k => foretellkeep_sameOps.l0 k l l ((i + 1 : Nat) : Int)) (fun k => ?_) (ih (i + 1) (by omega))
      simp only [foretellkeep_sameOps.l0]
      rw [if_pos (by omega), if_pos (by omega), if_pos (by omega), if_neg (by simp), w64 (n := (i : Int) + 1) (by omega) (by omega)]
      rfl
  unfold foretellkeep_sameOps.f
  simp only [if_true]
  exact hl l.length 0 (Nat.zero_add _)
/-- A part cut out of a term. -/
theorem cut_part {l pre post m : List Op} (h : l = pre ++ (m ++ post)) {x y : Int} (hx : x = (pre.length : Int)) (hy : y = ((pre.length + m.length : Nat) : Int)) : (l.take y.toNat).drop x.toNat = m := by
  subst h; subst hx; subst hy
  rw [Int.toNat_natCast, Int.toNat_natCast, List.take_append, List.take_of_length_le (by omega), show pre.length + m.length - pre.length = m.length by omega, List.take_left' rfl, List.drop_left' rfl]
theorem split_is (t : Tm) (h : t.ok) (hs : t.size ≤ 60) : Ev (fun k => polish_Split.f k t.flat) (t.parts.map Tm.flat, 0) := by
  have hfl := t.flat_len
  have hel := t.ends_len 0
  unfold polish_Split.f
  refine Ev.bind (ends_ok t h hs) ?_
  simp only [if_true]
  have hstop : ∀ (es : List Int) (out : List (List Op)) (x : Int), x = (t.size : Int) → Ev (fun k => polish_Split.l0 k t.flat es out x) (out, 0) := by
    intro es out x hx
    refine Ev.step (f := fun _ => some (out, (0 : Int))) (fun k => ?_) (Ev.now _)
    simp only [polish_Split.l0]
    rw [if_neg (by omega)]
  have hgo : ∀ (out : List (List Op)) (x y : Int) (m : List Op) (pre post : List Op), out.length ≤ 5 → t.flat = pre ++ (m ++ post) → x = (pre.length : Int) → y = ((pre.length + m.length : Nat) : Int) → 0 < m.length → rd (t.ends 0) x = y → ∀ r, Ev (fun k => polish_Split.l0 k t.flat (t.ends 0) (out ++ [m]) y) r → Ev (fun k => polish_Split.l0 k t.flat (t.ends 0) out x) r := by
    intro out x y m pre post ho hl hx hy hm hrd r hr
    have hlen : pre.length + (m.length + post.length) = t.size := by rw [← hfl, hl]; simp
    refine Ev.step (f := fun k => polish_Split.l0 k t.flat (t.ends 0) (out ++ [m]) y) (fun k => ?_) hr
    simp only [polish_Split.l0, hrd]
    rw [if_pos (by omega), if_pos (by omega), if_pos (by omega), if_pos (by omega), if_pos (by omega), cut_part hl hx hy, Option.bind_some, if_pos (by simp only [List.length_nil]; omega), if_pos (by omega), List.nil_append]
  cases t with
  | leaf o => exact hstop _ [] 1 rfl
  | un o a =>
    have e1 : rd ((Tm.un o a).ends 0) 1 = 1 + a.size := by
      have h0 := ends_head a 1
      simp only [rd, Tm.ends, List.getD_eq_getElem?_getD]
      rw [show (1 : Int).toNat = 0 + 1 from rfl, List.getElem?_cons_succ]
      simp only [Int.zero_add, h0]
      rfl
    refine hgo [] 1 (1 + a.size) a.flat [o] [] (by simp) (by simp [Tm.flat]) rfl (by simp [a.flat_len]) (by rw [a.flat_len]; exact a.size_pos) e1 _ ?_
    exact hstop _ _ _ (by simp only [Tm.size]; omega)
  | bin o a b =>
    have hA := a.ends_len 1
    have e1 : rd ((Tm.bin o a b).ends 0) 1 = 1 + a.size := by
      have h0 := ends_head a 1
      have hp := a.size_pos
      simp only [rd, Tm.ends, List.getD_eq_getElem?_getD]
      rw [show (1 : Int).toNat = 0 + 1 from rfl, List.getElem?_cons_succ]
      simp only [Int.zero_add]
      rw [List.getElem?_append_left (by omega), h0]
      rfl
    have e2 : rd ((Tm.bin o a b).ends 0) (1 + a.size) = 1 + a.size + b.size := by
      have h0 := ends_head b (1 + a.size)
      simp only [rd, Tm.ends, List.getD_eq_getElem?_getD]
      rw [show ((1 : Int) + (a.size : Int)).toNat = a.size + 1 by omega, List.getElem?_cons_succ]
      simp only [Int.zero_add]
      rw [List.getElem?_append_right (by omega), hA, Nat.sub_self, h0]
      rfl
    refine hgo [] 1 (1 + a.size) a.flat [o] b.flat (by simp) (by simp [Tm.flat]) rfl (by simp [a.flat_len]) (by rw [a.flat_len]; exact a.size_pos) e1 _ ?_
    refine hgo [a.flat] (1 + a.size) (1 + a.size + b.size) b.flat (o :: a.flat) [] (by simp) (by simp [Tm.flat]) (by simp [a.flat_len]; omega) (by simp [a.flat_len, b.flat_len]; omega) (by rw [b.flat_len]; exact b.size_pos) e2 _ ?_
    exact hstop _ _ _ (by simp only [Tm.size]; omega)
theorem parts_at (a n : Int) (h1 : 1 ≤ a) (h2 : a ≤ 18) (h3 : polish_Parts.tab.getD a.toNat 0 = n) : polish_Parts.f a = some (n, 0) := by
  unfold polish_Parts.f
  rw [if_neg (by omega), if_neg (by omega), h3]
theorem parts_is (t : Tm) (h : t.ok) : polish_Parts.f t.op.f0 = some ((t.parts.length : Int), 0) := by
  cases t with
  | leaf o => exact parts_at o.f0 0 h.1 h.2.1 h.2.2
  | un o a => exact parts_at o.f0 1 h.1 h.2.1 h.2.2.1
  | bin o a b => exact parts_at o.f0 2 h.1 h.2.1 h.2.2.1
theorem part_size {t a : Tm} (h : a ∈ t.parts) : a.size < t.size := by
  cases t with
  | leaf o => simp [Tm.parts] at h
  | un o x =>
    simp only [Tm.parts, List.mem_singleton] at h
    subst h
    simp only [Tm.size]; omega
  | bin o x y =>
    simp only [Tm.parts, List.mem_cons, List.not_mem_nil, or_false] at h
    rcases h with rfl | rfl <;> (simp only [Tm.size]; omega)
theorem SplitJoin : P.foretellkeep_SplitJoin.Pur := by
  intro raw ⟨_, hw⟩
  obtain ⟨t, ht, hs, he⟩ := truth_is (raw := raw) hw 3 (by decide)
  have hpos := t.size_pos
  have hfl := t.flat_len
  have hfp := t.flat_parts
  have hok := Tm.ok_parts ht.ok
  have hsz : ∀ a ∈ t.parts, a.size ≤ 24 := fun a ha => by have := part_size ha; omega
  have hpl : t.parts.length ≤ 2 := by cases t <;> simp [Tm.parts]
  have hsame := same_is t.flat (by omega)
  have h0 : rd_T32 t.flat 0 = t.op := rdT_at (pre := []) (post := t.parts.flatMap Tm.flat) hfp rfl
  refine Ev.rounds ?_
  unfold foretellkeep_SplitJoin.f
  refine Ev.bind he ?_
  refine Ev.bind (split_is t ht.ok (by omega)) ?_
  rw [hfl]
  simp only [if_pos (show 0 < (t.size : Int) by omega), h0, parts_is t ht.ok, List.length_map]
  refine Ev.bind (Ev.now _) ?_
  simp only [if_true]
  have hl0 : ∀ (d i : Nat), i + d = t.parts.length → Ev (fun k => foretellkeep_SplitJoin.l0 k t.flat (t.parts.map Tm.flat) (t.op :: ((t.parts.take i).flatMap Tm.flat)) (i : Int)) true := by
    intro d
    induction d with
    | zero =>
      intro i hi
      refine Ev.step (f := fun k => (foretellkeep_sameOps.f k t.flat t.flat).bind fun t183 => (some t183)) (fun k => ?_) (Ev.bind hsame (Ev.now _))
      simp only [foretellkeep_SplitJoin.l0]
      rw [if_neg (by simp; omega), List.take_of_length_le (by omega), ← hfp]
    | succ d ih =>
      intro i hi
      have hil : i < t.parts.length := by omega
      have hm := List.getElem_mem hil
      have hrd : rd_L4 (t.parts.map Tm.flat) (i : Int) = t.parts[i].flat := by
        unfold rd_L4
        rw [Int.toNat_natCast, List.getD_eq_getElem?_getD, List.getElem?_eq_getElem (by simpa using hil)]
        simp
      have hends := ends_ok t.parts[i] (hok _ hm) (by have := hsz _ hm; omega)
      have hlen : ((t.parts.take i).flatMap Tm.flat).length ≤ 48 := by
        have : ∀ l : List Tm, (∀ a ∈ l, a.size ≤ 24) → (l.flatMap Tm.flat).length ≤ 24 * l.length := by
          intro l
          induction l with
          | nil => intro _; simp
          | cons a l ih =>
            intro h
            have h1 := h a (by simp)
            have h2 := ih (fun b hb => h b (by simp [hb]))
            simp only [List.flatMap_cons, List.length_append, a.flat_len, List.length_cons]
            omega
        have h1 := this (t.parts.take i) (fun a ha => hsz a (List.mem_of_mem_take ha))
        rw [List.length_take] at h1
        omega
      have hsi := hsz _ hm
      refine Ev.step (f := fun k => (polish_Ends.f k t.parts[i].flat).bind fun bt175 => (if bt175.2 = 0 then (if (t.op :: ((t.parts.take i).flatMap Tm.flat)).length + t.parts[i].flat.length < 8796093022208 then (foretellkeep_SplitJoin.l0 k t.flat (t.parts.map Tm.flat) ((t.op :: ((t.parts.take i).flatMap Tm.flat)) ++ t.parts[i].flat) (wrap64 ((i : Int) + 1))) else (none)) else (some false))) (fun k => ?_) (Ev.bind hends ?_)
      · simp only [foretellkeep_SplitJoin.l0, hrd]
        rw [if_pos (by simp; omega), if_pos (by omega)]
      · have hlt : (t.op :: ((t.parts.take i).flatMap Tm.flat)).length + t.parts[i].flat.length < 8796093022208 := by rw [List.length_cons, Tm.flat_len]; omega
        simp only [if_true, if_pos hlt]
        rw [w64 (n := (i : Int) + 1) (by omega) (by omega)]
        have e : (t.op :: ((t.parts.take i).flatMap Tm.flat)) ++ t.parts[i].flat = t.op :: ((t.parts.take (i + 1)).flatMap Tm.flat) := by
          rw [List.take_succ_eq_append_getElem hil, List.flatMap_append]
          simp
        rw [e]
        exact ih (i + 1) (by omega)
  refine Ev.step (f := fun k => foretellkeep_SplitJoin.l0 k t.flat (t.parts.map Tm.flat) (t.op :: ((t.parts.take 0).flatMap Tm.flat)) ((0 : Nat) : Int)) (fun k => ?_) (hl0 t.parts.length 0 (Nat.zero_add _))
  simp only [foretellkeep_SplitJoin.j0, h0]
  rw [if_neg (by simp), if_pos (by omega)]
  rfl
end Go.Proofs.YtlejdidngmjicaaDoor.Q
