/- What logic's Truths make of a formula. -/
import Derived.Test.YtcoaeefmmnohkaaDoorQCheck
import Derived.Test.YtcoaeefmmnohkaaDoorQLies
import Derived.Test.YtcoaeefmmnohkaaDoorFTruths
namespace Go.Proofs.YtcoaeefmmnohkaaDoor.Q
open Go.RowKit Go.Proofs.YtcoaeefmmnohkaaDoorW.PrintWords Go.Proofs.YtcoaeefmmnohkaaDoorW.PrintMore Go.Proofs.YtcoaeefmmnohkaaDoor.P
set_option linter.unusedVariables false
/-- A claim's bit. -/
def bit (c : Int) (j : Nat) : Bool := Go.bits .and .i64 (shr .i64 c (j : Int)) 1 == 1
def hd (l : List Bool) : Bool := l.headD false
/-- The truth of each op: j ops ahead of it look ahead. -/
def Tm.tv (letter : List Bool) (c : Int) : Nat → Tm → List Bool
  | _, .leaf o => [if o.f0 = 13 then rdOf false letter o.f1 else decide (o.f0 = 11)]
  | j, .un o a => if o.f0 = 10 then (!(hd (a.tv letter c j))) :: a.tv letter c j else bit c j :: a.tv letter c (j + 1)
  | j, .bin o a b => if o.f0 = 8 ∨ o.f0 = 9 then (if o.f0 = 8 then hd (a.tv letter c j) && hd (b.tv letter c (j + a.tempo)) else hd (a.tv letter c j) || hd (b.tv letter c (j + a.tempo))) :: (a.tv letter c j ++ b.tv letter c (j + a.tempo)) else bit c j :: (a.tv letter c (j + 1) ++ b.tv letter c (j + 1 + a.tempo))
theorem Tm.tv_len (letter : List Bool) (c : Int) : ∀ (t : Tm) (j : Nat), (t.tv letter c j).length = t.size
  | .leaf _, _ => rfl
  | .un o a, j => by
    unfold Tm.tv
    by_cases h : o.f0 = 10
    · rw [if_pos h, List.length_cons, a.tv_len]; rfl
    · rw [if_neg h, List.length_cons, a.tv_len]; rfl
  | .bin o a b, j => by
    unfold Tm.tv
    by_cases h : o.f0 = 8 ∨ o.f0 = 9
    · rw [if_pos h, List.length_cons, List.length_append, a.tv_len, b.tv_len]; rfl
    · rw [if_neg h, List.length_cons, List.length_append, a.tv_len, b.tv_len]; rfl
theorem set_rep (p : Nat) (post : List Bool) (v : Bool) : (List.replicate (p + 1) false ++ post).set p v = List.replicate p false ++ (v :: post) := by
  rw [List.replicate_succ', List.append_assoc, List.set_append_right _ _ (by simp)]
  simp
theorem rd_mid {pre l : List Bool} {i : Int} (hi : i = (pre.length : Int)) : rdOf false (pre ++ l) i = hd l := by
  subst hi
  unfold rdOf hd
  rw [Int.toNat_natCast, List.getD_eq_getElem?_getD, List.getElem?_append_right (Nat.le_refl _)]
  cases l <;> simp
theorem run_form {props : Int} {letter : List Bool} (c : Int) (hlp : (letter.length : Int) = props) {t : Tm} (h : FormT props t) : ∀ (ops : List Op) (es : List Int) (p j : Nat) (post : List Bool), Lies t (p : Int) ops es → p + t.size + post.length = ops.length → j + t.tempo ≤ 60 →
    logic_Truths.run ops letter c es (p + t.size) (List.replicate (p + t.size) false ++ post) ((j + t.tempo : Nat) : Int) = logic_Truths.run ops letter c es p (List.replicate p false ++ (t.tv letter c j ++ post)) (j : Int) := by
  have hleaf : ∀ (o : Op) (v : Bool) (ops : List Op) (es : List Int) (p j : Nat) (post : List Bool), Lies (.leaf o) (p : Int) ops es → (∀ out bit, truths_step o letter c es out bit p = some (out.set p v, bit) ∨ (truths_step o letter c es out bit p = some (out, bit) ∧ v = false)) →
      logic_Truths.run ops letter c es (p + 1) (List.replicate (p + 1) false ++ post) (j : Int) = logic_Truths.run ops letter c es p (List.replicate p false ++ (v :: post)) (j : Int) := by
    intro o v ops es p j post hp hv
    have e1 : rd_T51 ops (p : Int) = o := hp.rt.1
    rw [logic_Truths.run, e1]
    rcases hv (List.replicate (p + 1) false ++ post) (j : Int) with q | ⟨q, rfl⟩
    · rw [q, Option.bind_some, set_rep]
    · rw [q, Option.bind_some, List.replicate_succ', List.append_assoc]; rfl
  -- an op ahead of what it stands over
  have hop : ∀ (o : Op) (v : Bool) (ops : List Op) (es : List Int) (p : Nat) (b b' : Int) (post : List Bool), rd_T51 ops (p : Int) = o → truths_step o letter c es (List.replicate (p + 1) false ++ post) b p = some ((List.replicate (p + 1) false ++ post).set p v, b') →
      logic_Truths.run ops letter c es (p + 1) (List.replicate (p + 1) false ++ post) b = logic_Truths.run ops letter c es p (List.replicate p false ++ (v :: post)) b' := by
    intro o v ops es p b b' post e1 hv
    rw [logic_Truths.run, e1, hv, Option.bind_some, set_rep]
  have hlook : ∀ (o : Int) (es : List Int) (out : List Bool) (p j : Nat), 14 ≤ o → j + 1 ≤ 60 → truths_step ⟨o, 0⟩ letter c es out ((j + 1 : Nat) : Int) p = some (out.set p (bit c j), (j : Int)) := by
    intro o es out p j ho hj
    unfold truths_step
    simp only
    rw [if_neg (by omega), if_neg (by omega), if_neg (by omega), if_neg (by omega), if_neg (by omega), if_pos (by omega), show ((j + 1 : Nat) : Int) - 1 = (j : Int) by omega]
    rfl
  induction h with
  | prop v h0 h1 =>
    intro ops es p j post hp hl hj
    refine hleaf _ (rdOf false letter v) ops es p j post hp (fun out bit => .inl ?_)
    unfold truths_step
    rw [if_pos rfl, if_pos ⟨h0, show v < (letter.length : Int) by omega⟩]
  | yes o h =>
    intro ops es p j post hp hl hj
    rcases h with rfl | rfl
    · exact hleaf _ true ops es p j post hp (fun out bit => .inl rfl)
    · exact hleaf _ false ops es p j post hp (fun out bit => .inr ⟨rfl, rfl⟩)
  | not a ha ih =>
    intro ops es p j post hp hl hj
    simp only [Tm.size, Tm.tempo, if_true] at hl hj ⊢
    have sa := a.size_pos
    have hq := hp.un
    have e := ih ops es (p + 1) j post (by rw [show ((p + 1 : Nat) : Int) = (p : Int) + 1 by omega]; exact hq) (by omega) (by omega)
    rw [show p + (a.size + 1) = p + 1 + a.size by omega, Nat.zero_add, e]
    refine hop ⟨10, 0⟩ (!(hd (a.tv letter c j))) ops es p _ _ _ hp.rt.1 ?_
    unfold truths_step
    simp only
    rw [if_neg (by decide), if_neg (by decide), if_neg (by decide), if_pos trivial, if_pos (by rw [List.length_append, List.length_append, List.length_replicate, a.tv_len]; omega), rd_mid (pre := List.replicate (p + 1) false) (by simp)]
    have : hd (a.tv letter c j ++ post) = hd (a.tv letter c j) := by
      have hz := a.tv_len letter c j
      cases hx : a.tv letter c j with
      | nil => rw [hx] at hz; simp at hz; omega
      | cons x xs => rfl
    rw [this]
  | look o a h ha ih =>
    intro ops es p j post hp hl hj
    have ho : o ≠ 10 := by omega
    have etv : (Tm.un ⟨o, 0⟩ a).tv letter c j = bit c j :: a.tv letter c (j + 1) := by
      rw [Tm.tv]
      exact if_neg ho
    have etm : (Tm.un ⟨o, 0⟩ a).tempo = 1 + a.tempo := by
      rw [Tm.tempo]
      simp only
      rw [if_neg ho]
    rw [etv, etm]
    rw [etm] at hj
    simp only [Tm.size] at hl ⊢
    have e := ih ops es (p + 1) (j + 1) post (by rw [show ((p + 1 : Nat) : Int) = (p : Int) + 1 by omega]; exact hp.un) (by omega) (by omega)
    rw [show p + (a.size + 1) = p + 1 + a.size by omega, show j + (1 + a.tempo) = j + 1 + a.tempo by omega, e]
    exact hop ⟨o, 0⟩ (bit c j) ops es p _ _ _ hp.rt.1 (hlook o es _ p j (by omega) (by omega))
  | log o a b h ha hb iha ihb =>
    intro ops es p j post hp hl hj
    have etv : (Tm.bin ⟨o, 0⟩ a b).tv letter c j = (if o = 8 then hd (a.tv letter c j) && hd (b.tv letter c (j + a.tempo)) else hd (a.tv letter c j) || hd (b.tv letter c (j + a.tempo))) :: (a.tv letter c j ++ b.tv letter c (j + a.tempo)) := by
      rw [Tm.tv]
      exact if_pos h
    have etm : (Tm.bin ⟨o, 0⟩ a b).tempo = a.tempo + b.tempo := by
      rw [Tm.tempo]
      simp only
      rw [if_pos h, Nat.zero_add]
    rw [etv, etm]
    rw [etm] at hj
    have sa := a.size_pos
    have sb := b.size_pos
    simp only [Tm.size] at hl ⊢
    have la := a.tv_len letter c j
    have lb := b.tv_len letter c (j + a.tempo)
    have eb := ihb ops es (p + 1 + a.size) (j + a.tempo) post (by rw [show ((p + 1 + a.size : Nat) : Int) = (p : Int) + 1 + a.size by omega]; exact hp.right) (by omega) (by omega)
    have ea := iha ops es (p + 1) j (b.tv letter c (j + a.tempo) ++ post) (by rw [show ((p + 1 : Nat) : Int) = (p : Int) + 1 by omega]; exact hp.left) (by rw [List.length_append, lb]; omega) (by omega)
    rw [show p + (a.size + b.size + 1) = p + 1 + a.size + b.size by omega, show j + (a.tempo + b.tempo) = j + a.tempo + b.tempo by omega, eb, ea]
    have hrt := hp.left.rt.2
    have hp0 := hp.left.p0
    have hgd : es.getD (p + 1) 0 = (p : Int) + 1 + a.size := by
      rw [← hrt]
      unfold rd
      rw [show ((p : Int) + 1).toNat = p + 1 by omega]
    have h1 : hd (a.tv letter c j ++ (b.tv letter c (j + a.tempo) ++ post)) = hd (a.tv letter c j) := by
      cases hx : a.tv letter c j with
      | nil => rw [hx] at la; simp at la; omega
      | cons x xs => rfl
    have h2 : hd (b.tv letter c (j + a.tempo) ++ post) = hd (b.tv letter c (j + a.tempo)) := by
      cases hx : b.tv letter c (j + a.tempo) with
      | nil => rw [hx] at lb; simp at lb; omega
      | cons x xs => rfl
    have hlen : (List.replicate (p + 1) false ++ (a.tv letter c j ++ (b.tv letter c (j + a.tempo) ++ post))).length = p + 1 + a.size + b.size + post.length := by
      rw [List.length_append, List.length_append, List.length_append, List.length_replicate, la, lb]; omega
    rw [List.cons_append, List.append_assoc]
    refine hop ⟨o, 0⟩ _ ops es p _ _ _ hp.rt.1 ?_
    unfold truths_step
    simp only
    rw [if_neg (by omega), if_neg (by omega), if_neg (by omega), if_neg (by omega), if_pos h, if_pos ⟨by rw [hlen]; omega, by omega, by rw [hgd]; omega, by rw [hgd, hlen]; omega⟩, hgd, rd_mid (pre := List.replicate (p + 1) false) (by simp), h1, ← List.append_assoc (List.replicate (p + 1) false), rd_mid (pre := List.replicate (p + 1) false ++ a.tv letter c j) (by rw [List.length_append, List.length_replicate, la]; omega), h2]
  | unto o a b h ha hb iha ihb =>
    intro ops es p j post hp hl hj
    have ho : ¬ (o = 8 ∨ o = 9) := by omega
    have etv : (Tm.bin ⟨o, 0⟩ a b).tv letter c j = bit c j :: (a.tv letter c (j + 1) ++ b.tv letter c (j + 1 + a.tempo)) := by
      rw [Tm.tv]
      exact if_neg ho
    have etm : (Tm.bin ⟨o, 0⟩ a b).tempo = 1 + a.tempo + b.tempo := by
      rw [Tm.tempo]
      simp only
      rw [if_neg ho]
    rw [etv, etm]
    rw [etm] at hj
    simp only [Tm.size] at hl ⊢
    have lb := b.tv_len letter c (j + 1 + a.tempo)
    have eb := ihb ops es (p + 1 + a.size) (j + 1 + a.tempo) post (by rw [show ((p + 1 + a.size : Nat) : Int) = (p : Int) + 1 + a.size by omega]; exact hp.right) (by omega) (by omega)
    have ea := iha ops es (p + 1) (j + 1) (b.tv letter c (j + 1 + a.tempo) ++ post) (by rw [show ((p + 1 : Nat) : Int) = (p : Int) + 1 by omega]; exact hp.left) (by rw [List.length_append, lb]; omega) (by omega)
    rw [show p + (a.size + b.size + 1) = p + 1 + a.size + b.size by omega, show j + (1 + a.tempo + b.tempo) = j + 1 + a.tempo + b.tempo by omega, eb, ea, List.cons_append, List.append_assoc]
    exact hop ⟨o, 0⟩ (bit c j) ops es p _ _ _ hp.rt.1 (hlook o es _ p j (by omega) (by omega))
theorem shl_pow (n : Nat) (h : n ≤ 6) : shl .i64 1 (n : Int) = ((2 ^ n : Nat) : Int) := by
  have : n = 0 ∨ n = 1 ∨ n = 2 ∨ n = 3 ∨ n = 4 ∨ n = 5 ∨ n = 6 := by omega
  rcases this with rfl | rfl | rfl | rfl | rfl | rfl | rfl <;> decide
theorem truths_is {letter : List Bool} (c : Int) (hp1 : letter.length ≤ 6) {t : Tm} (h : FormT (letter.length : Int) t) (hs : t.size ≤ 60) (ht : t.tempo ≤ 6) (h0 : 0 ≤ c) (h1 : c < ((2 ^ t.tempo : Nat) : Int)) : Ev (fun k => logic_Truths.f k t.flat letter c) (t.tv letter c 0, 0) := by
  have hl := t.flat_len
  have he := t.ends_len 0
  have hz := t.size_pos
  unfold logic_Truths.f
  refine Ev.bind (ahead_is (by omega) (by omega) h hs ht) ?_
  rw [aheadL_len, h.cnt, shl_pow _ ht]
  refine Ev.congr (fun k => if_pos ⟨rfl, h0, h1⟩) ?_
  refine Ev.bind (ends_ok t h.ok hs) ?_
  simp only [if_pos (show 0 < t.flat.length ∧ 0 < (t.ends 0).length ∧ t.flat.length ≤ 100000 by omega)]
  have hr := run_form c rfl h t.flat (t.ends 0) 0 0 [] (lies_whole t) (by rw [List.length_nil]; omega) (by omega)
  rw [Nat.zero_add, Nat.zero_add, List.append_nil, List.append_nil] at hr
  rw [hl, hr]
  simp only [List.replicate_zero, List.nil_append, logic_Truths.run, Option.bind_some]
  exact Ev.now _
end Go.Proofs.YtcoaeefmmnohkaaDoor.Q
