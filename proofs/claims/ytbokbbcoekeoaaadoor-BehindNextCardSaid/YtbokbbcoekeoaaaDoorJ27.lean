-- PACKED by pack.py of this repo: QTruths QFollow QStep QProd QNext QBehind QProps QTask
import Derived.Test.YtbokbbcoekeoaaaDoorJ20
import Derived.Test.YtbokbbcoekeoaaaDoorJ4
import Derived.Test.YtbokbbcoekeoaaaDoorJ23
import Derived.Test.YtbokbbcoekeoaaaDoorJ24
import Derived.Test.YtbokbbcoekeoaaaDoorJ15
import Derived.Test.YtbokbbcoekeoaaaDoorJ11
import Derived.Test.YtbokbbcoekeoaaaDoorJ21
import Derived.Test.YtbokbbcoekeoaaaDoorJ18
import Derived.Test.YtbokbbcoekeoaaaDoorJ25
import Derived.Test.YtbokbbcoekeoaaaDoorJ2
import Derived.Test.YtbokbbcoekeoaaaDoorJ7
section
namespace Go.Proofs.YtbokbbcoekeoaaaDoor.Q
open Go.RowKit Go.Proofs.YtbokbbcoekeoaaaDoorW.PrintWords Go.Proofs.YtbokbbcoekeoaaaDoorW.PrintMore Go.Proofs.YtbokbbcoekeoaaaDoor.P
set_option linter.unusedVariables false
def bit (c : Int) (j : Nat) : Bool := Go.bits .and .i64 (shr .i64 c (j : Int)) 1 == 1
def hd (l : List Bool) : Bool := l.headD false
def Tm.tv (letter : List Bool) (c : Int) : Nat → Tm → List Bool
  | _, .leaf o => [if o.f0 = 13 then rdOf false letter o.f1 else decide (o.f0 = 11)]
  | j, .un o a => if o.f0 = 10 then (!(hd (a.tv letter c j))) :: a.tv letter c j else bit c j :: a.tv letter c (j + 1)
  | j, .bin o a b => if o.f0 = 8 ∨ o.f0 = 9 then (if o.f0 = 8 then hd (a.tv letter c j) && hd (b.tv letter c (j + a.tempo)) else hd (a.tv letter c j) || hd (b.tv letter c (j + a.tempo))) :: (a.tv letter c j ++ b.tv letter c (j + a.tempo)) else bit c j :: (a.tv letter c (j + 1) ++ b.tv letter c (j + 1 + a.tempo))
theorem Tm.tv_len (letter : List Bool) (c : Int) : ∀ (t : Tm) (j : Nat), (t.tv letter c j).length = t.size
  | .leaf _, _ => rfl
  | .un o a, j => by
    unfold Tm.tv
    by_cases h : o.f0 = 10
    · rw [if_pos h, List.length_cons, a.tv_len]; rfl
    · rw [if_neg h, List.length_cons, a.tv_len]; rfl
  | .bin o a b, j => by
    unfold Tm.tv
    by_cases h : o.f0 = 8 ∨ o.f0 = 9
    · rw [if_pos h, List.length_cons, List.length_append, a.tv_len, b.tv_len]; rfl
    · rw [if_neg h, List.length_cons, List.length_append, a.tv_len, b.tv_len]; rfl
theorem set_rep (p : Nat) (post : List Bool) (v : Bool) : (List.replicate (p + 1) false ++ post).set p v = List.replicate p false ++ (v :: post) := by
  rw [List.replicate_succ', List.append_assoc, List.set_append_right _ _ (by simp)]
  simp
theorem rd_mid {pre l : List Bool} {i : Int} (hi : i = (pre.length : Int)) : rdOf false (pre ++ l) i = hd l := by
  subst hi
  unfold rdOf hd
  rw [Int.toNat_natCast, List.getD_eq_getElem?_getD, List.getElem?_append_right (Nat.le_refl _)]
  cases l <;> simp
theorem run_form {props : Int} {letter : List Bool} (c : Int) (hlp : (letter.length : Int) = props) {t : Tm} (h : FormT props t) : ∀ (ops : List Op) (es : List Int) (p j : Nat) (post : List Bool), Lies t (p : Int) ops es → p + t.size + post.length = ops.length → j + t.tempo ≤ 60 →
    logic_Truths.run ops letter c es (p + t.size) (List.replicate (p + t.size) false ++ post) ((j + t.tempo : Nat) : Int) = logic_Truths.run ops letter c es p (List.replicate p false ++ (t.tv letter c j ++ post)) (j : Int) := by
  have hleaf : ∀ (o : Op) (v : Bool) (ops : List Op) (es : List Int) (p j : Nat) (post : List Bool), Lies (.leaf o) (p : Int) ops es → (∀ out bit, truths_step o letter c es out bit p = some (out.set p v, bit) ∨ (truths_step o letter c es out bit p = some (out, bit) ∧ v = false)) →
      logic_Truths.run ops letter c es (p + 1) (List.replicate (p + 1) false ++ post) (j : Int) = logic_Truths.run ops letter c es p (List.replicate p false ++ (v :: post)) (j : Int) := by
    intro o v ops es p j post hp hv
    have e1 : rd_T72 ops (p : Int) = o := hp.rt.1
    rw [logic_Truths.run, e1]
    rcases hv (List.replicate (p + 1) false ++ post) (j : Int) with q | ⟨q, rfl⟩
    · rw [q, Option.bind_some, set_rep]
    · rw [q, Option.bind_some, List.replicate_succ', List.append_assoc]; rfl
  have hop : ∀ (o : Op) (v : Bool) (ops : List Op) (es : List Int) (p : Nat) (b b' : Int) (post : List Bool), rd_T72 ops (p : Int) = o → truths_step o letter c es (List.replicate (p + 1) false ++ post) b p = some ((List.replicate (p + 1) false ++ post).set p v, b') →
      logic_Truths.run ops letter c es (p + 1) (List.replicate (p + 1) false ++ post) b = logic_Truths.run ops letter c es p (List.replicate p false ++ (v :: post)) b' := by
    intro o v ops es p b b' post e1 hv
    rw [logic_Truths.run, e1, hv, Option.bind_some, set_rep]
  have hlook : ∀ (o : Int) (es : List Int) (out : List Bool) (p j : Nat), 14 ≤ o → j + 1 ≤ 60 → truths_step ⟨o, 0⟩ letter c es out ((j + 1 : Nat) : Int) p = some (out.set p (bit c j), (j : Int)) := by
    intro o es out p j ho hj
    unfold truths_step
    simp only
    rw [if_neg (by omega), if_neg (by omega), if_neg (by omega), if_neg (by omega), if_neg (by omega), if_pos (by omega), show ((j + 1 : Nat) : Int) - 1 = (j : Int) by omega]
    rfl
  induction h with
  | prop v h0 h1 =>
    intro ops es p j post hp hl hj
    refine hleaf _ (rdOf false letter v) ops es p j post hp (fun out bit => .inl ?_)
    unfold truths_step
    rw [if_pos rfl, if_pos ⟨h0, show v < (letter.length : Int) by omega⟩]
  | yes o h =>
    intro ops es p j post hp hl hj
    rcases h with rfl | rfl
    · exact hleaf _ true ops es p j post hp (fun out bit => .inl rfl)
    · exact hleaf _ false ops es p j post hp (fun out bit => .inr ⟨rfl, rfl⟩)
  | not a ha ih =>
    intro ops es p j post hp hl hj
    simp only [Tm.size, Tm.tempo, if_true] at hl hj ⊢
    have sa := a.size_pos
    have hq := hp.un
    have e := ih ops es (p + 1) j post (by rw [show ((p + 1 : Nat) : Int) = (p : Int) + 1 by omega]; exact hq) (by omega) (by omega)
    rw [show p + (a.size + 1) = p + 1 + a.size by omega, Nat.zero_add, e]
    refine hop ⟨10, 0⟩ (!(hd (a.tv letter c j))) ops es p _ _ _ hp.rt.1 ?_
    unfold truths_step
    simp only
    rw [if_neg (by decide), if_neg (by decide), if_neg (by decide), if_pos trivial, if_pos (by rw [List.length_append, List.length_append, List.length_replicate, a.tv_len]; omega), rd_mid (pre := List.replicate (p + 1) false) (by simp)]
    have : hd (a.tv letter c j ++ post) = hd (a.tv letter c j) := by
      have hz := a.tv_len letter c j
      cases hx : a.tv letter c j with
      | nil => rw [hx] at hz; simp at hz; omega
      | cons x xs => rfl
    rw [this]
  | look o a h ha ih =>
    intro ops es p j post hp hl hj
    have ho : o ≠ 10 := by omega
    have etv : (Tm.un ⟨o, 0⟩ a).tv letter c j = bit c j :: a.tv letter c (j + 1) := by
      rw [Tm.tv]
      exact if_neg ho
    have etm : (Tm.un ⟨o, 0⟩ a).tempo = 1 + a.tempo := by
      rw [Tm.tempo]
      simp only
      rw [if_neg ho]
    rw [etv, etm]
    rw [etm] at hj
    simp only [Tm.size] at hl ⊢
    have e := ih ops es (p + 1) (j + 1) post (by rw [show ((p + 1 : Nat) : Int) = (p : Int) + 1 by omega]; exact hp.un) (by omega) (by omega)
    rw [show p + (a.size + 1) = p + 1 + a.size by omega, show j + (1 + a.tempo) = j + 1 + a.tempo by omega, e]
    exact hop ⟨o, 0⟩ (bit c j) ops es p _ _ _ hp.rt.1 (hlook o es _ p j (by omega) (by omega))
  | log o a b h ha hb iha ihb =>
    intro ops es p j post hp hl hj
    have etv : (Tm.bin ⟨o, 0⟩ a b).tv letter c j = (if o = 8 then hd (a.tv letter c j) && hd (b.tv letter c (j + a.tempo)) else hd (a.tv letter c j) || hd (b.tv letter c (j + a.tempo))) :: (a.tv letter c j ++ b.tv letter c (j + a.tempo)) := by
      rw [Tm.tv]
      exact if_pos h
    have etm : (Tm.bin ⟨o, 0⟩ a b).tempo = a.tempo + b.tempo := by
      rw [Tm.tempo]
      simp only
      rw [if_pos h, Nat.zero_add]
    rw [etv, etm]
    rw [etm] at hj
    have sa := a.size_pos
    have sb := b.size_pos
    simp only [Tm.size] at hl ⊢
    have la := a.tv_len letter c j
    have lb := b.tv_len letter c (j + a.tempo)
    have eb := ihb ops es (p + 1 + a.size) (j + a.tempo) post (by rw [show ((p + 1 + a.size : Nat) : Int) = (p : Int) + 1 + a.size by omega]; exact hp.right) (by omega) (by omega)
    have ea := iha ops es (p + 1) j (b.tv letter c (j + a.tempo) ++ post) (by rw [show ((p + 1 : Nat) : Int) = (p : Int) + 1 by omega]; exact hp.left) (by rw [List.length_append, lb]; omega) (by omega)
    rw [show p + (a.size + b.size + 1) = p + 1 + a.size + b.size by omega, show j + (a.tempo + b.tempo) = j + a.tempo + b.tempo by omega, eb, ea]
    have hrt := hp.left.rt.2
    have hp0 := hp.left.p0
    have hgd : es.getD (p + 1) 0 = (p : Int) + 1 + a.size := by
      rw [← hrt]
      unfold rd
      rw [show ((p : Int) + 1).toNat = p + 1 by omega]
    have h1 : hd (a.tv letter c j ++ (b.tv letter c (j + a.tempo) ++ post)) = hd (a.tv letter c j) := by
      cases hx : a.tv letter c j with
      | nil => rw [hx] at la; simp at la; omega
      | cons x xs => rfl
    have h2 : hd (b.tv letter c (j + a.tempo) ++ post) = hd (b.tv letter c (j + a.tempo)) := by
      cases hx : b.tv letter c (j + a.tempo) with
      | nil => rw [hx] at lb; simp at lb; omega
      | cons x xs => rfl
    have hlen : (List.replicate (p + 1) false ++ (a.tv letter c j ++ (b.tv letter c (j + a.tempo) ++ post))).length = p + 1 + a.size + b.size + post.length := by
      rw [List.length_append, List.length_append, List.length_append, List.length_replicate, la, lb]; omega
    rw [List.cons_append, List.append_assoc]
    refine hop ⟨o, 0⟩ _ ops es p _ _ _ hp.rt.1 ?_
    unfold truths_step
    simp only
    rw [if_neg (by omega), if_neg (by omega), if_neg (by omega), if_neg (by omega), if_pos h, if_pos ⟨by rw [hlen]; omega, by omega, by rw [hgd]; omega, by rw [hgd, hlen]; omega⟩, hgd, rd_mid (pre := List.replicate (p + 1) false) (by simp), h1, ← List.append_assoc (List.replicate (p + 1) false), rd_mid (pre := List.replicate (p + 1) false ++ a.tv letter c j) (by rw [List.length_append, List.length_replicate, la]; omega), h2]
  | unto o a b h ha hb iha ihb =>
    intro ops es p j post hp hl hj
    have ho : ¬ (o = 8 ∨ o = 9) := by omega
    have etv : (Tm.bin ⟨o, 0⟩ a b).tv letter c j = bit c j :: (a.tv letter c (j + 1) ++ b.tv letter c (j + 1 + a.tempo)) := by
      rw [Tm.tv]
      exact if_neg ho
    have etm : (Tm.bin ⟨o, 0⟩ a b).tempo = 1 + a.tempo + b.tempo := by
      rw [Tm.tempo]
      simp only
      rw [if_neg ho]
    rw [etv, etm]
    rw [etm] at hj
    simp only [Tm.size] at hl ⊢
    have lb := b.tv_len letter c (j + 1 + a.tempo)
    have eb := ihb ops es (p + 1 + a.size) (j + 1 + a.tempo) post (by rw [show ((p + 1 + a.size : Nat) : Int) = (p : Int) + 1 + a.size by omega]; exact hp.right) (by omega) (by omega)
    have ea := iha ops es (p + 1) (j + 1) (b.tv letter c (j + 1 + a.tempo) ++ post) (by rw [show ((p + 1 : Nat) : Int) = (p : Int) + 1 by omega]; exact hp.left) (by rw [List.length_append, lb]; omega) (by omega)
    rw [show p + (a.size + b.size + 1) = p + 1 + a.size + b.size by omega, show j + (1 + a.tempo + b.tempo) = j + 1 + a.tempo + b.tempo by omega, eb, ea, List.cons_append, List.append_assoc]
    exact hop ⟨o, 0⟩ (bit c j) ops es p _ _ _ hp.rt.1 (hlook o es _ p j (by omega) (by omega))
theorem shl_pow (n : Nat) (h : n ≤ 6) : shl .i64 1 (n : Int) = ((2 ^ n : Nat) : Int) := by
  have : n = 0 ∨ n = 1 ∨ n = 2 ∨ n = 3 ∨ n = 4 ∨ n = 5 ∨ n = 6 := by omega
  rcases this with rfl | rfl | rfl | rfl | rfl | rfl | rfl <;> decide
theorem truths_is {letter : List Bool} (c : Int) (hp1 : letter.length ≤ 6) {t : Tm} (h : FormT (letter.length : Int) t) (hs : t.size ≤ 60) (ht : t.tempo ≤ 6) (h0 : 0 ≤ c) (h1 : c < ((2 ^ t.tempo : Nat) : Int)) : Ev (fun k => logic_Truths.f k t.flat letter c) (t.tv letter c 0, 0) := by
  have hl := t.flat_len
  have he := t.ends_len 0
  have hz := t.size_pos
  unfold logic_Truths.f
  refine Ev.bind (ahead_is (by omega) (by omega) h hs ht) ?_
  rw [aheadL_len, h.cnt, shl_pow _ ht]
  refine Ev.congr (fun k => if_pos ⟨rfl, h0, h1⟩) ?_
  refine Ev.bind (ends_ok t h.ok hs) ?_
  simp only [if_pos (show 0 < t.flat.length ∧ 0 < (t.ends 0).length ∧ t.flat.length ≤ 100000 by omega)]
  have hr := run_form c rfl h t.flat (t.ends 0) 0 0 [] (lies_whole t) (by rw [List.length_nil]; omega) (by omega)
  rw [Nat.zero_add, Nat.zero_add, List.append_nil, List.append_nil] at hr
  rw [hl, hr]
  simp only [List.replicate_zero, List.nil_append, logic_Truths.run, Option.bind_some]
  exact Ev.now _
end Go.Proofs.YtbokbbcoekeoaaaDoor.Q
end
section
namespace Go.Proofs.YtbokbbcoekeoaaaDoor.Q
open Go.RowKit Go.Proofs.YtbokbbcoekeoaaaDoorW.PrintWords Go.Proofs.YtbokbbcoekeoaaaDoorW.PrintMore Go.Proofs.YtbokbbcoekeoaaaDoor.P
set_option linter.unusedVariables false
set_option maxRecDepth 100000 in
theorem bit_nat (a j : Nat) (ha : a < 64) (hj : j < 6) : bit (a : Int) j = a.testBit j := by
  have h : ∀ x : Fin 64, ∀ y : Fin 6, bit ((x.val : Nat) : Int) y.val = x.val.testBit y.val := by decide +kernel
  exact h ⟨a, ha⟩ ⟨j, hj⟩
theorem pow_le6 {j : Nat} (h : j ≤ 6) : 2 ^ j ≤ 64 := Nat.pow_le_pow_right (by decide) h
theorem tempo_not (a : Tm) : (Tm.un ⟨10, 0⟩ a).tempo = a.tempo := by rw [Tm.tempo]; simp
theorem tempo_look {o : Int} (a : Tm) (h : o ≠ 10) : (Tm.un ⟨o, 0⟩ a).tempo = a.tempo + 1 := by rw [Tm.tempo]; simp only; rw [if_neg h]; omega
theorem tempo_log {o : Int} (a b : Tm) (h : o = 8 ∨ o = 9) : (Tm.bin ⟨o, 0⟩ a b).tempo = a.tempo + b.tempo := by rw [Tm.tempo]; simp only; rw [if_pos h]; omega
theorem tempo_unto {o : Int} (a b : Tm) (h : ¬ (o = 8 ∨ o = 9)) : (Tm.bin ⟨o, 0⟩ a b).tempo = a.tempo + b.tempo + 1 := by rw [Tm.tempo]; simp only; rw [if_neg h]; omega
theorem or_bit {N j : Nat} (hN : N < 2 ^ j) (hj : j < 6) (f : Bool) : (if f = true then N ||| 2 ^ j else N) < 2 ^ (j + 1) ∧ (∀ m, m < j → (if f = true then N ||| 2 ^ j else N).testBit m = N.testBit m) ∧ (if f = true then N ||| 2 ^ j else N).testBit j = f := by
  have h1 : N.testBit j = false := Nat.testBit_lt_two_pow hN
  have h2 : 2 ^ j < 2 ^ (j + 1) := Nat.pow_lt_pow_right (by decide) (by omega)
  cases f with
  | false => exact ⟨by simp; omega, fun m hm => by simp, by simp [h1]⟩
  | true =>
    refine ⟨?_, fun m hm => ?_, ?_⟩
    · rw [if_pos rfl]; exact Nat.or_lt_two_pow (by omega) h2
    · rw [if_pos rfl, Nat.testBit_or, Nat.testBit_two_pow, decide_eq_false (by omega), Bool.or_false]
    · rw [if_pos rfl, Nat.testBit_or, Nat.testBit_two_pow, decide_eq_true rfl, Bool.or_true]
def tval (L : List Bool) (b : Nat → Bool) : Nat → Tm → Bool
  | _, .leaf o => if o.f0 = 13 then rdOf false L o.f1 else decide (o.f0 = 11)
  | j, .un o a => if o.f0 = 10 then !(tval L b j a) else b j
  | j, .bin o x y => if o.f0 = 8 ∨ o.f0 = 9 then (if o.f0 = 8 then tval L b j x && tval L b (j + x.tempo) y else tval L b j x || tval L b (j + x.tempo) y) else b j
theorem hd_tv (L : List Bool) (c : Int) : ∀ (t : Tm) (j : Nat), hd (t.tv L c j) = tval L (bit c) j t
  | .leaf o, j => rfl
  | .un o a, j => by
    rw [Tm.tv, tval]
    by_cases h : o.f0 = 10
    · rw [if_pos h, if_pos h, ← hd_tv L c a j]; rfl
    · rw [if_neg h, if_neg h]; rfl
  | .bin o x y, j => by
    rw [Tm.tv, tval]
    by_cases h : o.f0 = 8 ∨ o.f0 = 9
    · rw [if_pos h, if_pos h, ← hd_tv L c x j, ← hd_tv L c y]; rfl
    · rw [if_neg h, if_neg h]; rfl
def lawB (o : Int) (me later a a' y : Bool) : Bool := if o = 14 then me == a' else if o = 17 then me == (a || later) else if o = 18 then me == (a && later) else if o = 15 then me == (y || a && later) else me == (y && (a || later))
def keepT (L L' : List Bool) (b b' : Nat → Bool) : Nat → Tm → Bool
  | _, .leaf _ => true
  | j, .un o a => if o.f0 = 10 then keepT L L' b b' j a else lawB o.f0 (b j) (b' j) (tval L b (j + 1) a) (tval L' b' (j + 1) a) false && keepT L L' b b' (j + 1) a
  | j, .bin o x y => if o.f0 = 8 ∨ o.f0 = 9 then keepT L L' b b' j x && keepT L L' b b' (j + x.tempo) y else lawB o.f0 (b j) (b' j) (tval L b (j + 1) x) false (tval L b (j + 1 + x.tempo) y) && (keepT L L' b b' (j + 1) x && keepT L L' b b' (j + 1 + x.tempo) y)
structure VL (L : List Bool) (c : Int) (t : Tm) (p j : Nat) (V : List Bool) : Prop where
  at_ : ∃ A B, V = A ++ (t.tv L c j ++ B) ∧ p = A.length
section
variable {L : List Bool} {c : Int} {p j : Nat} {V : List Bool}
theorem VL.rt {t : Tm} (h : VL L c t p j V) : p < V.length ∧ rdOf false V (p : Int) = tval L (bit c) j t := by
  obtain ⟨A, B, rfl, rfl⟩ := h.at_
  have hl := t.tv_len L c j
  have hz := t.size_pos
  refine ⟨by rw [List.length_append, List.length_append]; omega, ?_⟩
  rw [rd_mid (pre := A) rfl, ← hd_tv]
  cases hx : t.tv L c j with
  | nil => rw [hx] at hl; simp at hl; omega
  | cons x xs => rfl
theorem VL.not {a : Tm} (h : VL L c (.un ⟨10, 0⟩ a) p j V) : VL L c a (p + 1) j V := by
  obtain ⟨A, B, rfl, rfl⟩ := h.at_
  refine ⟨A ++ [!(hd (a.tv L c j))], B, ?_, by simp⟩
  rw [Tm.tv, if_pos rfl]; simp
theorem VL.look {o : Int} {a : Tm} (ho : o ≠ 10) (h : VL L c (.un ⟨o, 0⟩ a) p j V) : VL L c a (p + 1) (j + 1) V := by
  obtain ⟨A, B, rfl, rfl⟩ := h.at_
  refine ⟨A ++ [bit c j], B, ?_, by simp⟩
  rw [Tm.tv, if_neg ho]; simp
theorem VL.logl {o : Int} {x y : Tm} (ho : o = 8 ∨ o = 9) (h : VL L c (.bin ⟨o, 0⟩ x y) p j V) : VL L c x (p + 1) j V ∧ VL L c y (p + 1 + x.size) (j + x.tempo) V := by
  obtain ⟨A, B, rfl, rfl⟩ := h.at_
  obtain ⟨z, hz⟩ : ∃ z, (Tm.bin ⟨o, 0⟩ x y).tv L c j = z :: (x.tv L c j ++ y.tv L c (j + x.tempo)) := ⟨_, by rw [Tm.tv]; exact if_pos ho⟩
  rw [hz]
  exact ⟨⟨A ++ [z], y.tv L c (j + x.tempo) ++ B, by simp, by simp⟩, ⟨A ++ [z] ++ x.tv L c j, B, by simp, by simp [x.tv_len]; omega⟩⟩
theorem VL.unto {o : Int} {x y : Tm} (ho : ¬ (o = 8 ∨ o = 9)) (h : VL L c (.bin ⟨o, 0⟩ x y) p j V) : VL L c x (p + 1) (j + 1) V ∧ VL L c y (p + 1 + x.size) (j + 1 + x.tempo) V := by
  obtain ⟨A, B, rfl, rfl⟩ := h.at_
  obtain ⟨z, hz⟩ : ∃ z, (Tm.bin ⟨o, 0⟩ x y).tv L c j = z :: (x.tv L c (j + 1) ++ y.tv L c (j + 1 + x.tempo)) := ⟨_, by rw [Tm.tv]; exact if_neg ho⟩
  rw [hz]
  exact ⟨⟨A ++ [z], y.tv L c (j + 1 + x.tempo) ++ B, by simp, by simp⟩, ⟨A ++ [z] ++ x.tv L c (j + 1), B, by simp, by simp [x.tv_len]; omega⟩⟩
theorem vl_whole (t : Tm) : VL L c t 0 0 (t.tv L c 0) := ⟨[], [], by simp, rfl⟩
end
theorem ah_look {o : Int} (h : 14 ≤ o) : ah ⟨o, 0⟩ = true := by simp [ah]; exact h
theorem ah_not {o v : Int} (h : o < 14) : ¬ ah ⟨o, v⟩ = true := by simp [ah]; exact h
theorem keeps_f {V V' : List Bool} {o : Int} {p e : Nat} {me later a a' y : Bool} (ho : 14 ≤ o ∧ o ≤ 18) (h1 : p + 1 < V.length) (h2 : p + 1 < V'.length) (he : (o = 15 ∨ o = 16) → e < V.length) (hp : p ≤ 1000) (m1 : rdOf false V (p : Int) = me) (m2 : rdOf false V' (p : Int) = later) (m3 : rdOf false V ((p + 1 : Nat) : Int) = a) (m4 : o = 14 → rdOf false V' ((p + 1 : Nat) : Int) = a') (m5 : (o = 15 ∨ o = 16) → rdOf false V (e : Int) = y) :
    logic_pair_keeps.f V V' o (p : Int) (e : Int) = some (lawB o me later a a' y) := by
  have hw : (p : Int) + 1 = ((p + 1 : Nat) : Int) := by omega
  unfold logic_pair_keeps.f
  rw [if_pos ⟨by omega, by omega, by omega, by omega, ho.1, ho.2, fun h h' => ⟨by omega, by have := he (by omega); omega⟩⟩, hw, m1, m2, m3]
  unfold klaw lawB
  by_cases k14 : o = 14
  · rw [if_pos k14, if_pos k14, m4 k14]
  rw [if_neg k14, if_neg k14]
  by_cases k17 : o = 17
  · rw [if_pos k17, if_pos k17]
  rw [if_neg k17, if_neg k17]
  by_cases k18 : o = 18
  · rw [if_pos k18, if_pos k18]
  rw [if_neg k18, if_neg k18]
  rw [m5 (by omega)]
theorem follows_go {props : Int} {L L' : List Bool} {c c' : Int} {V V' : List Bool} {es : List Int} {ops : List Op} (hn : ops.length ≤ 100) {t : Tm} (h : FormT props t) : ∀ (p j : Nat) (v : Bool), Lies t (p : Int) ops es → VL L c t p j V → VL L' c' t p j V' →
    (keepT L L' (bit c) (bit c') j t = true → Ev (fun k => logic_Follows.l0 k V V' es ops (ops.length : Int) ((p + t.size : Nat) : Int)) (v, 0)) → (keepT L L' (bit c) (bit c') j t = false → v = false) →
    Ev (fun k => logic_Follows.l0 k V V' es ops (ops.length : Int) (p : Int)) (v, 0) := by
  have hskip : ∀ (o : Op) (p : Nat) (v : Bool), fok props o → ¬ ah o = true → rd_T72 ops (p : Int) = o → p < ops.length → Ev (fun k => logic_Follows.l0 k V V' es ops (ops.length : Int) ((p + 1 : Nat) : Int)) (v, 0) → Ev (fun k => logic_Follows.l0 k V V' es ops (ops.length : Int) (p : Int)) (v, 0) := by
    intro o p v hf ho hr hp hv
    refine Ev.step (fun k => ?_) hv
    have hw : wrap64 ((p : Int) + 1) = ((p + 1 : Nat) : Int) := w64 (n := (p : Int) + 1) (by omega) (by omega)
    simp only [logic_Follows.l0, hr, ahead_f hf, Option.bind_some, hw]
    rw [if_pos (by omega), if_pos (by omega), if_pos (by omega), if_neg ho]
  have hlook : ∀ (o : Op) (p e : Nat) (v w : Bool), fok props o → ah o = true → rd_T72 ops (p : Int) = o → p < ops.length → p + 1 < es.length → rd es ((p + 1 : Nat) : Int) = (e : Int) → logic_pair_keeps.f V V' o.f0 (p : Int) (e : Int) = some w → (w = true → Ev (fun k => logic_Follows.l0 k V V' es ops (ops.length : Int) ((p + 1 : Nat) : Int)) (v, 0)) → (w = false → v = false) → Ev (fun k => logic_Follows.l0 k V V' es ops (ops.length : Int) (p : Int)) (v, 0) := by
    intro o p e v w hf ho hr hp he hre hk h1 h2
    have hw : wrap64 ((p : Int) + 1) = ((p + 1 : Nat) : Int) := w64 (n := (p : Int) + 1) (by omega) (by omega)
    cases w with
    | true =>
      refine Ev.step (fun k => ?_) (h1 rfl)
      simp only [logic_Follows.l0, hr, ahead_f hf, Option.bind_some, hw, hre, hk]
      rw [if_pos (by omega), if_pos (by omega), if_pos (by omega), if_pos ho, if_pos (by omega), if_pos (by omega), if_pos trivial]
    | false =>
      obtain rfl := h2 rfl
      refine Ev.step (f := fun _ => some (false, (0 : Int))) (fun k => ?_) (Ev.now _)
      simp only [logic_Follows.l0, hr, ahead_f hf, Option.bind_some, hw, hre, hk]
      rw [if_pos (by omega), if_pos (by omega), if_pos (by omega), if_pos ho, if_pos (by omega), if_pos (by omega), if_neg (by simp)]
  induction h with
  | prop v0 h0 h1 =>
    intro p j v hp hV hV' h2 h3
    exact hskip _ p v (FormT.ops (.prop v0 h0 h1) _ (List.mem_singleton.mpr rfl)) (ah_not (by decide)) hp.rt.1 (by have := hp.p0; simp only [Tm.size] at this; omega) (h2 rfl)
  | yes o h =>
    intro p j v hp hV hV' h2 h3
    exact hskip _ p v (FormT.ops (props := props) (.yes o h) _ (List.mem_singleton.mpr rfl)) (ah_not (by omega)) hp.rt.1 (by have := hp.p0; simp only [Tm.size] at this; omega) (h2 rfl)
  | not a ha ih =>
    intro p j v hp hV hV' h2 h3
    have hk : keepT L L' (bit c) (bit c') j (.un ⟨10, 0⟩ a) = keepT L L' (bit c) (bit c') j a := by rw [keepT]; exact if_pos rfl
    rw [hk] at h2 h3
    refine hskip _ p v (fok_of props 10 (by decide) (by decide) (by decide)) (ah_not (by decide)) hp.rt.1 (by have := hp.p0; simp only [Tm.size] at this; omega) ?_
    refine ih (p + 1) j v (by rw [show ((p + 1 : Nat) : Int) = (p : Int) + 1 by omega]; exact hp.un) hV.not hV'.not (fun q => ?_) h3
    rw [show p + 1 + a.size = p + (Tm.un ⟨10, 0⟩ a).size by show _ = p + (a.size + 1); omega]
    exact h2 q
  | look o a h ha ih =>
    intro p j v hp hV hV' h2 h3
    have ho10 : o ≠ 10 := by omega
    have hk : keepT L L' (bit c) (bit c') j (.un ⟨o, 0⟩ a) = (lawB o (bit c j) (bit c' j) (tval L (bit c) (j + 1) a) (tval L' (bit c') (j + 1) a) false && keepT L L' (bit c) (bit c') (j + 1) a) := by rw [keepT]; exact if_neg ho10
    have hme : tval L (bit c) j (.un ⟨o, 0⟩ a) = bit c j := by rw [tval]; exact if_neg ho10
    have hme' : tval L' (bit c') j (.un ⟨o, 0⟩ a) = bit c' j := by rw [tval]; exact if_neg ho10
    rw [hk] at h2 h3
    have hpa := hp.un
    have r0 := hp.p0
    have r1 := hpa.p0
    have v1 := hV.rt
    have v2 := hV'.rt
    have w1 := (hV.look ho10).rt
    have w2 := (hV'.look ho10).rt
    simp only [Tm.size] at r0
    have sz := a.size_pos
    obtain ⟨e, he⟩ : ∃ e : Nat, rd es ((p + 1 : Nat) : Int) = (e : Int) := ⟨p + 1 + a.size, by rw [show ((p + 1 : Nat) : Int) = (p : Int) + 1 by omega, hpa.rt.2]; omega⟩
    refine hlook ⟨o, 0⟩ p e v _ (fok_of props o (by omega) (by omega) (by omega)) (ah_look (by omega)) hp.rt.1 (by omega) (by omega) he (keeps_f (o := o) (y := false) (by omega) w1.1 w2.1 (by omega) (by omega) (v1.2.trans hme) (v2.2.trans hme') w1.2 (fun _ => w2.2) (by omega)) (fun q => ?_) (fun q => h3 (by rw [q]; rfl))
    rw [q, Bool.true_and] at h2 h3
    refine ih (p + 1) (j + 1) v (by rw [show ((p + 1 : Nat) : Int) = (p : Int) + 1 by omega]; exact hpa) (hV.look ho10) (hV'.look ho10) (fun q => ?_) h3
    rw [show p + 1 + a.size = p + (Tm.un ⟨o, 0⟩ a).size by show _ = p + (a.size + 1); omega]
    exact h2 q
  | log o a b h ha hb iha ihb =>
    intro p j v hp hV hV' h2 h3
    have hk : keepT L L' (bit c) (bit c') j (.bin ⟨o, 0⟩ a b) = (keepT L L' (bit c) (bit c') j a && keepT L L' (bit c) (bit c') (j + a.tempo) b) := by rw [keepT]; exact if_pos h
    rw [hk] at h2 h3
    have r0 := hp.p0
    simp only [Tm.size] at r0
    refine hskip _ p v (fok_of props o (by omega) (by omega) (by omega)) (ah_not (by omega)) hp.rt.1 (by omega) ?_
    refine iha (p + 1) j v (by rw [show ((p + 1 : Nat) : Int) = (p : Int) + 1 by omega]; exact hp.left) (hV.logl h).1 (hV'.logl h).1 (fun q => ?_) (fun q => h3 (by rw [q]; rfl))
    rw [q, Bool.true_and] at h2 h3
    refine ihb (p + 1 + a.size) (j + a.tempo) v (by rw [show ((p + 1 + a.size : Nat) : Int) = (p : Int) + 1 + a.size by omega]; exact hp.right) (hV.logl h).2 (hV'.logl h).2 (fun q => ?_) h3
    rw [show p + 1 + a.size + b.size = p + (Tm.bin ⟨o, 0⟩ a b).size by show _ = p + (a.size + b.size + 1); omega]
    exact h2 q
  | unto o a b h ha hb iha ihb =>
    intro p j v hp hV hV' h2 h3
    have ho : ¬ (o = 8 ∨ o = 9) := by omega
    have hk : keepT L L' (bit c) (bit c') j (.bin ⟨o, 0⟩ a b) = (lawB o (bit c j) (bit c' j) (tval L (bit c) (j + 1) a) false (tval L (bit c) (j + 1 + a.tempo) b) && (keepT L L' (bit c) (bit c') (j + 1) a && keepT L L' (bit c) (bit c') (j + 1 + a.tempo) b)) := by rw [keepT]; exact if_neg ho
    have hme : tval L (bit c) j (.bin ⟨o, 0⟩ a b) = bit c j := by rw [tval]; exact if_neg ho
    have hme' : tval L' (bit c') j (.bin ⟨o, 0⟩ a b) = bit c' j := by rw [tval]; exact if_neg ho
    rw [hk] at h2 h3
    have r0 := hp.p0
    have r1 := hp.left.p0
    have r2 := hp.right.p0
    have v1 := hV.rt
    have v2 := hV'.rt
    have w1 := (hV.unto ho).1.rt
    have w2 := (hV'.unto ho).1.rt
    have w3 := (hV.unto ho).2.rt
    simp only [Tm.size] at r0
    have sz := a.size_pos
    have he : rd es ((p + 1 : Nat) : Int) = ((p + 1 + a.size : Nat) : Int) := by rw [show ((p + 1 : Nat) : Int) = (p : Int) + 1 by omega, hp.left.rt.2]; omega
    refine hlook ⟨o, 0⟩ p (p + 1 + a.size) v _ (fok_of props o (by omega) (by omega) (by omega)) (ah_look (by omega)) hp.rt.1 (by omega) (by omega) he (keeps_f (o := o) (a' := false) (by omega) w1.1 w2.1 (fun _ => w3.1) (by omega) (v1.2.trans hme) (v2.2.trans hme') w1.2 (by omega) (fun _ => w3.2)) (fun q => ?_) (fun q => h3 (by rw [q]; rfl))
    rw [q, Bool.true_and] at h2 h3
    refine iha (p + 1) (j + 1) v (by rw [show ((p + 1 : Nat) : Int) = (p : Int) + 1 by omega]; exact hp.left) (hV.unto ho).1 (hV'.unto ho).1 (fun q => ?_) (fun q => h3 (by rw [q]; rfl))
    rw [q, Bool.true_and] at h2 h3
    refine ihb (p + 1 + a.size) (j + 1 + a.tempo) v (by rw [show ((p + 1 + a.size : Nat) : Int) = (p : Int) + 1 + a.size by omega]; exact hp.right) (hV.unto ho).2 (hV'.unto ho).2 (fun q => ?_) h3
    rw [show p + 1 + a.size + b.size = p + (Tm.bin ⟨o, 0⟩ a b).size by show _ = p + (a.size + b.size + 1); omega]
    exact h2 q
theorem follows_is {L L' : List Bool} {c c' : Int} (hl : L.length = L'.length) (hp1 : L.length ≤ 6) {t : Tm} (h : FormT (L.length : Int) t) (hs : t.size ≤ 60) (ht : t.tempo ≤ 6) (h0 : 0 ≤ c) (h1 : c < ((2 ^ t.tempo : Nat) : Int)) (h0' : 0 ≤ c') (h1' : c' < ((2 ^ t.tempo : Nat) : Int)) :
    Ev (fun k => logic_Follows.f k t.flat L c L' c') (keepT L L' (bit c) (bit c') 0 t, 0) := by
  have hfl := t.flat_len
  unfold logic_Follows.f
  refine Ev.congr (fun k => if_pos (by omega)) ?_
  refine Ev.bind (truths_is c hp1 h hs ht h0 h1) ?_
  simp only [if_true]
  refine Ev.bind (truths_is c' (by omega) (by rw [← hl]; exact h) hs ht h0' h1') ?_
  simp only [if_true]
  refine Ev.bind (ends_ok t h.ok hs) ?_
  refine follows_go (L := L) (L' := L') (c := c) (c' := c') (by omega) h 0 0 _ (lies_whole t) (vl_whole t) (vl_whole t) (fun q => ?_) (fun q => q)
  rw [q]
  refine Ev.step (f := fun _ => some (true, (0 : Int))) (fun k => ?_) (Ev.now _)
  simp only [logic_Follows.l0]
  rw [if_neg (by omega)]
def accN : Nat → Nat → List Bool → Nat
  | N, _, [] => N
  | N, j, f :: fl => accN (if f = true then N ||| 2 ^ j else N) (j + 1) fl
theorem accN_ok : ∀ (fl : List Bool) (N j : Nat), N < 2 ^ j → j + fl.length ≤ 6 → accN N j fl < 2 ^ (j + fl.length) ∧ (∀ m, m < j → (accN N j fl).testBit m = N.testBit m) ∧ ∀ k, k < fl.length → (accN N j fl).testBit (j + k) = fl.getD k false
  | [], N, j, h, _ => ⟨h, fun m _ => rfl, fun k hk => absurd hk (by simp)⟩
  | f :: fl, N, j, h, h6 => by
    rw [List.length_cons] at h6
    obtain ⟨o1, o2, o3⟩ := or_bit h (show j < 6 by omega) f
    obtain ⟨a1, a2, a3⟩ := accN_ok fl _ (j + 1) o1 (by omega)
    rw [accN, List.length_cons, show j + (fl.length + 1) = j + 1 + fl.length by omega]
    refine ⟨a1, fun m hm => (a2 m (by omega)).trans (o2 m hm), fun k hk => ?_⟩
    cases k with
    | zero => exact (a2 j (by omega)).trans o3
    | succ k =>
      rw [show j + (k + 1) = j + 1 + k by omega, List.getD_cons_succ]
      exact a3 k (by omega)
end Go.Proofs.YtbokbbcoekeoaaaDoor.Q
end
section
namespace Go.Proofs.YtbokbbcoekeoaaaDoor.Q
open Go.RowKit Go.Proofs.YtbokbbcoekeoaaaDoorW.PrintWords Go.Proofs.YtbokbbcoekeoaaaDoorW.PrintMore Go.Proofs.YtbokbbcoekeoaaaDoor.P
set_option linter.unusedVariables false
def evl (l : List Op) (env : List Int) : Int × Int := (expr_Eval.run env l.reverse []).getD (0, 0)
theorem run_is {nv : Int} {env : List Int} (hlen : (env.length : Int) = nv) {b : Bool} {t : Tm} (h : Ty nv b t) (hs : t.size ≤ 60) : expr_Eval.run env t.flat.reverse [] = some (res (t.val env)) := by
  have hr := run_tm hlen h [] [] (by rw [List.length_nil]; omega)
  rw [List.append_nil] at hr
  rw [hr]
  cases t.val env with
  | none => rfl
  | some n => rfl
theorem evl_tm {nv : Int} {env : List Int} (hlen : (env.length : Int) = nv) {b : Bool} {t : Tm} (h : Ty nv b t) (hs : t.size ≤ 60) : evl t.flat env = res (t.val env) := by
  unfold evl
  rw [run_is hlen h hs]
  rfl
theorem eval_ok {nv : Int} (h1 : nv ≤ 6) {env : List Int} (hlen : (env.length : Int) = nv) (he : ∀ v ∈ env, -1000000 ≤ v ∧ v ≤ 1000000) {b : Bool} {l : List Op} (h : ExOk nv b l) : Ev (fun k => expr_Eval.f k l env) (evl l env) := by
  obtain ⟨t, rfl, ht, hs⟩ := h
  rw [evl_tm hlen ht hs]
  exact eval_is h1 hlen he ht hs
theorem in_wide {vs : List Vr} (hv : VarsOk vs) {env : List Int} (h : inS vs env) : ∀ v ∈ env, -1000000 ≤ v ∧ v ≤ 1000000 := by
  intro x hx
  obtain ⟨i, hi, rfl⟩ := List.getElem_of_mem hx
  have hl : i < vs.length := by rw [← inR_len h]; exact hi
  have h1 := inR_get h i _ _ (List.getElem?_eq_getElem hl) (List.getElem?_eq_getElem hi)
  have h2 := hv.bd _ (List.getElem_mem hl)
  omega
theorem in_len {vs : List Vr} {env : List Int} (h : inS vs env) : (env.length : Int) = (vs.length : Int) := by rw [inR_len h]
theorem eval_in {vs : List Vr} (hv : VarsOk vs) {env : List Int} (h : inS vs env) {b : Bool} {l : List Op} (hl : ExOk vs.length b l) : Ev (fun k => expr_Eval.f k l env) (evl l env) :=
  eval_ok (by have := hv.len; omega) (in_len h) (in_wide hv h) hl
def tr (env : List Int) (p : List Op) : Bool := (evl p env).2 == 0 && (evl p env).1 == 1
def PropsOk (nv : Int) (ps : List (List Op)) : Prop := ps.length ≤ 6 ∧ ∀ p ∈ ps, ExOk nv true p
theorem rdL4 {l : List (List Op)} {i : Nat} (h : i < l.length) : rd_L4 l (i : Int) = l[i] := by simp [rd_L4, h]
theorem props_loop {vs : List Vr} {rs : List Rl} (h : ModelOk vs rs) {ps : List (List Op)} (hp : PropsOk vs.length ps) : ∀ (d i : Nat), i + d = ps.length → Ev (fun k => model_Props.l0 k ps (ps.length : Int) (i : Int) vs rs) 0 := by
  obtain ⟨n0, n1⟩ := nv_rng h
  obtain ⟨hl, hp⟩ := hp
  intro d
  induction d with
  | zero =>
    intro i hi
    refine Ev.step (f := fun _ => some 0) (fun k => ?_) (Ev.now _)
    rw [model_Props.l0, if_neg (by omega)]
  | succ d ih =>
    intro i hi
    have hil : i < ps.length := by omega
    refine Ev.step (f := fun k => (model_kind.f k ps[i] (vs.length : Int) true).bind fun t => if t = 0 then model_Props.l0 k ps (ps.length : Int) ((i + 1 : Nat) : Int) vs rs else some t) (fun k => ?_) (Ev.bind (kind_good n0 n1 (hp _ (List.getElem_mem hil))) ?_)
    · rw [model_Props.l0, if_pos (by omega), if_pos (by omega), if_pos (by omega), rdL4 hil, w64 (n := (i : Int) + 1) (by omega) (by omega)]
      rfl
    · simp only [if_true]
      exact ih (i + 1) (by omega)
theorem props_good {vs : List Vr} {rs : List Rl} (h : ModelOk vs rs) {ps : List (List Op)} (hp : PropsOk vs.length ps) : Ev (fun k => model_Props.f k vs rs ps) 0 := by
  have := hp.1
  refine Ev.bind (model_good h) ?_
  simp only [if_true, if_neg (show ¬ (6 < (ps.length : Int)) by omega)]
  exact props_loop h hp ps.length 0 (Nat.zero_add _)
theorem letter_loop {vs : List Vr} (hv : VarsOk vs) {env : List Int} (he : inS vs env) {ps : List (List Op)} (hp : PropsOk vs.length ps) : ∀ (d i : Nat), i + d = ps.length → Ev (fun k => step_Letter.l0 k env ((ps.take i).map (tr env) ++ List.replicate d false) ps (ps.length : Int) (i : Int)) (ps.map (tr env), 0) := by
  obtain ⟨hl, hp⟩ := hp
  intro d
  induction d with
  | zero =>
    intro i hi
    refine Ev.step (f := fun _ => some (ps.map (tr env), 0)) (fun k => ?_) (Ev.now _)
    rw [step_Letter.l0, if_neg (by omega), List.take_of_length_le (by omega)]
    simp
  | succ d ih =>
    intro i hi
    have hil : i < ps.length := by omega
    have hset : ∀ b : Bool, ((ps.take i).map (tr env) ++ List.replicate (d + 1) false).set i b = (ps.take i).map (tr env) ++ (b :: List.replicate d false) := by
      intro b
      have hli : ((ps.take i).map (tr env)).length = i := by simp; omega
      rw [List.set_append_right _ _ (by omega), hli, Nat.sub_self]
      rfl
    have hnext : (ps.take (i + 1)).map (tr env) ++ List.replicate d false = (ps.take i).map (tr env) ++ (tr env ps[i] :: List.replicate d false) := by
      rw [List.take_add_one, List.getElem?_eq_getElem hil, List.map_append, List.append_assoc]
      rfl
    refine Ev.step (f := fun k => (expr_Eval.f k ps[i] env).bind fun b => if b.2 = 0 then step_Letter.l0 k env ((ps.take i).map (tr env) ++ ((b.1 == 1) :: List.replicate d false)) ps (ps.length : Int) ((i + 1 : Nat) : Int) else step_Letter.l0 k env ((ps.take i).map (tr env) ++ (false :: List.replicate d false)) ps (ps.length : Int) ((i + 1 : Nat) : Int)) (fun k => ?_) (Ev.bind (eval_in hv he (hp _ (List.getElem_mem hil))) ?_)
    · rw [step_Letter.l0, if_pos (by omega), if_pos (by omega), if_pos (by omega), rdL4 hil, w64 (n := (i : Int) + 1) (by omega) (by omega)]
      have hlt : (i : Int) < (((ps.take i).map (tr env) ++ List.replicate (d + 1) false).length : Int) := by simp; omega
      simp only [if_pos hlt, Int.toNat_natCast, hset]
      rfl
    · have := ih (i + 1) (by omega)
      rw [hnext] at this
      by_cases c : (evl ps[i] env).2 = 0
      · simp only [if_pos c]
        have e : tr env ps[i] = ((evl ps[i] env).1 == 1) := by unfold tr; rw [c]; rfl
        rw [e] at this
        exact this
      · simp only [if_neg c]
        have e : tr env ps[i] = false := by unfold tr; rw [beq_eq_false_iff_ne.mpr c, Bool.false_and]
        rw [e] at this
        exact this
theorem letter_is {vs : List Vr} {rs : List Rl} (h : ModelOk vs rs) {ps : List (List Op)} (hp : PropsOk vs.length ps) {c : Int} (h0 : 0 ≤ c) (h1 : c < cnt vs) : Ev (fun k => step_Letter.f k vs rs ps c) (ps.map (tr (valS vs c)), 0) := by
  have hl := hp.1
  refine Ev.bind (props_good h hp) ?_
  simp only [if_true]
  refine Ev.bind (values_is h h0 h1) ?_
  simp only [if_true, if_pos (show (0 : Int) ≤ (ps.length : Int) by omega), Int.toNat_natCast, if_pos (show ps.length ≤ 281474976710656 by omega)]
  exact letter_loop h.v (valS_in c h.v.le) hp ps.length 0 (Nat.zero_add _)
theorem tval_same {props : Int} {L : List Bool} {b b2 : Nat → Bool} {t : Tm} (h : FormT props t) : ∀ j, (∀ k, k < t.tempo → b (j + k) = b2 (j + k)) → tval L b j t = tval L b2 j t := by
  induction h with
  | prop v _ _ => intro j _; rfl
  | yes o _ => intro j _; rfl
  | not a _ ih =>
    intro j hb
    rw [tempo_not] at hb
    rw [tval, tval, if_pos rfl, if_pos rfl, ih j hb]
  | look o a h _ ih =>
    intro j hb
    have ho : o ≠ 10 := by omega
    rw [tempo_look a ho] at hb
    have := hb 0 (by omega)
    rw [tval, tval, if_neg ho, if_neg ho]
    exact this
  | log o a c h _ _ iha ihc =>
    intro j hb
    rw [tempo_log a c h] at hb
    rw [tval, tval, if_pos h, if_pos h, iha j (fun k hk => hb k (by omega)), ihc (j + a.tempo) (fun k hk => by rw [Nat.add_assoc]; exact hb (a.tempo + k) (by omega))]
  | unto o a c h _ _ iha ihc =>
    intro j hb
    have ho : ¬ (o = 8 ∨ o = 9) := by omega
    rw [tempo_unto a c ho] at hb
    have := hb 0 (by omega)
    rw [tval, tval, if_neg ho, if_neg ho]
    exact this
def lawR (o : Int) (later a a' y : Bool) : Bool := if o = 14 then a' else if o = 17 then (a || later) else if o = 18 then (a && later) else if o = 15 then (y || a && later) else (y && (a || later))
theorem lawB_R (o : Int) (later a a' y : Bool) : lawB o (lawR o later a a' y) later a a' y = true := by
  unfold lawB lawR
  by_cases h1 : o = 14
  · rw [if_pos h1, if_pos h1]; simp
  · rw [if_neg h1, if_neg h1]
    by_cases h2 : o = 17
    · rw [if_pos h2, if_pos h2]; simp
    · rw [if_neg h2, if_neg h2]
      by_cases h3 : o = 18
      · rw [if_pos h3, if_pos h3]; simp
      · rw [if_neg h3, if_neg h3]
        by_cases h4 : o = 15
        · rw [if_pos h4, if_pos h4]; simp
        · rw [if_neg h4, if_neg h4]; simp
theorem getD_app1 {l m : List Bool} {k : Nat} (h : k < l.length) : (l ++ m).getD k false = l.getD k false := by
  rw [List.getD_eq_getElem?_getD, List.getD_eq_getElem?_getD, List.getElem?_append_left h]
theorem getD_app2 {l m : List Bool} (k : Nat) : (l ++ m).getD (l.length + k) false = m.getD k false := by
  rw [List.getD_eq_getElem?_getD, List.getD_eq_getElem?_getD, List.getElem?_append_right (by omega)]
  congr 2
  omega
theorem sol_is {props : Int} (L L' : List Bool) (b' : Nat → Bool) {t : Tm} (h : FormT props t) : ∀ j, ∃ s : List Bool, s.length = t.tempo ∧ ∀ b : Nat → Bool, (∀ k, k < t.tempo → b (j + k) = s.getD k false) → keepT L L' b b' j t = true := by
  induction h with
  | prop v _ _ => intro j; exact ⟨[], rfl, fun b _ => rfl⟩
  | yes o _ => intro j; exact ⟨[], rfl, fun b _ => rfl⟩
  | not a _ ih =>
    intro j
    obtain ⟨s, hs, h⟩ := ih j
    refine ⟨s, by rw [tempo_not]; exact hs, fun b hb => ?_⟩
    rw [tempo_not] at hb
    rw [keepT, if_pos rfl]
    exact h b hb
  | look o a ho ha ih =>
    intro j
    have ho' : o ≠ 10 := by omega
    obtain ⟨s, hs, h⟩ := ih (j + 1)
    refine ⟨lawR o (b' j) (tval L (fun n => s.getD (n - (j + 1)) false) (j + 1) a) (tval L' b' (j + 1) a) false :: s, by rw [tempo_look a ho', List.length_cons, hs], fun b hb => ?_⟩
    rw [tempo_look a ho'] at hb
    have h0 := hb 0 (by omega)
    have hr : ∀ k, k < a.tempo → b (j + 1 + k) = s.getD k false := fun k hk => by
      have := hb (k + 1) (by omega)
      rw [List.getD_cons_succ] at this
      rw [← this]
      congr 1
      omega
    have hv : tval L b (j + 1) a = tval L (fun n => s.getD (n - (j + 1)) false) (j + 1) a := tval_same ha (j + 1) (fun k hk => by
      rw [hr k hk]
      show s.getD k false = s.getD (j + 1 + k - (j + 1)) false
      congr 1
      omega)
    rw [keepT, if_neg ho', hv, h b hr, Bool.and_true]
    rw [show b j = _ from h0, List.getD_cons_zero]
    exact lawB_R _ _ _ _ _
  | log o a c ho ha hc iha ihc =>
    intro j
    obtain ⟨s1, hs1, h1⟩ := iha j
    obtain ⟨s2, hs2, h2⟩ := ihc (j + a.tempo)
    refine ⟨s1 ++ s2, by rw [tempo_log a c ho, List.length_append, hs1, hs2], fun b hb => ?_⟩
    rw [tempo_log a c ho] at hb
    rw [keepT, if_pos ho, h1 b (fun k hk => by rw [hb k (by omega), getD_app1 (by omega)]), h2 b (fun k hk => by rw [Nat.add_assoc, hb (a.tempo + k) (by omega), ← hs1, getD_app2])]
    rfl
  | unto o a c ho ha hc iha ihc =>
    intro j
    have ho' : ¬ (o = 8 ∨ o = 9) := by omega
    obtain ⟨s1, hs1, h1⟩ := iha (j + 1)
    obtain ⟨s2, hs2, h2⟩ := ihc (j + 1 + a.tempo)
    refine ⟨lawR o (b' j) (tval L (fun n => (s1 ++ s2).getD (n - (j + 1)) false) (j + 1) a) false (tval L (fun n => (s1 ++ s2).getD (n - (j + 1)) false) (j + 1 + a.tempo) c) :: (s1 ++ s2), by rw [tempo_unto a c ho', List.length_cons, List.length_append, hs1, hs2], fun b hb => ?_⟩
    rw [tempo_unto a c ho'] at hb
    have h0 := hb 0 (by omega)
    have hr : ∀ k, k < a.tempo + c.tempo → b (j + 1 + k) = (s1 ++ s2).getD k false := fun k hk => by
      have := hb (k + 1) (by omega)
      rw [List.getD_cons_succ] at this
      rw [← this]
      congr 1
      omega
    have hv1 : tval L b (j + 1) a = tval L (fun n => (s1 ++ s2).getD (n - (j + 1)) false) (j + 1) a := tval_same ha (j + 1) (fun k hk => by
      rw [hr k (by omega)]
      show (s1 ++ s2).getD k false = (s1 ++ s2).getD (j + 1 + k - (j + 1)) false
      congr 1
      omega)
    have hv2 : tval L b (j + 1 + a.tempo) c = tval L (fun n => (s1 ++ s2).getD (n - (j + 1)) false) (j + 1 + a.tempo) c := tval_same hc (j + 1 + a.tempo) (fun k hk => by
      rw [Nat.add_assoc (j + 1), hr (a.tempo + k) (by omega)]
      show (s1 ++ s2).getD (a.tempo + k) false = (s1 ++ s2).getD (j + 1 + (a.tempo + k) - (j + 1)) false
      congr 1
      omega)
    rw [keepT, if_neg ho', hv1, hv2, h1 b (fun k hk => by rw [hr k (by omega), getD_app1 (by omega)]), h2 b (fun k hk => by rw [Nat.add_assoc (j + 1), hr (a.tempo + k) (by omega), ← hs1, getD_app2])]
    rw [show b j = _ from h0, List.getD_cons_zero, lawB_R]
    rfl
theorem claim_ahead {props : Int} (L L' : List Bool) (c' : Int) {t : Tm} (h : FormT props t) (ht : t.tempo ≤ 6) : ∃ N : Nat, N < 2 ^ t.tempo ∧ keepT L L' (bit (N : Int)) (bit c') 0 t = true := by
  obtain ⟨s, hs, hk⟩ := sol_is L L' (bit c') h 0
  obtain ⟨h1, _, h3⟩ := accN_ok s 0 0 (by decide) (by omega)
  rw [Nat.zero_add] at h1
  have h64 : accN 0 0 s < 64 := Nat.lt_of_lt_of_le h1 (pow_le6 (by omega))
  refine ⟨accN 0 0 s, by rw [← hs]; exact h1, hk _ (fun k hk => ?_)⟩
  have := h3 k (by omega)
  rw [Nat.zero_add] at this ⊢
  rw [bit_nat _ _ h64 (by omega)]
  exact this
abbrev Sp := S45
theorem rdSp {l : List Sp} {i : Nat} (h : i < l.length) : rd_T45 l (i : Int) = l[i] := by simp [rd_T45, h]
structure TaskOk (vs : List Vr) (rs : List Rl) (ps : List (List Op)) (t : Tm) : Prop where
  m : ModelOk vs rs
  p : PropsOk vs.length ps
  f : FormT (ps.length : Int) t
  s : t.size ≤ 60
  t : t.tempo ≤ 6
section
variable {vs : List Vr} {rs : List Rl} {ps : List (List Op)} {t : Tm}
theorem pcheck_is (h : TaskOk vs rs ps t) : Ev (fun k => product_Check.f k vs rs ps t.flat) 0 := by
  have hl := h.p.1
  refine Ev.bind (props_good h.m h.p) ?_
  simp only [if_true]
  exact Ev.bind (check_is (by omega) (by omega) h.f h.s h.t) (Ev.now _)
theorem claims_many (h : TaskOk vs rs ps t) : Ev (fun k => product_claims.f k vs rs ps t.flat) ((2 ^ t.tempo : Nat) : Int) := by
  have hl := h.p.1
  refine Ev.bind (ahead_is (by omega) (by omega) h.f h.s h.t) (ev_some ?_)
  simp only
  rw [aheadL_len, h.f.cnt, shl_pow _ h.t]
end
end Go.Proofs.YtbokbbcoekeoaaaDoor.Q
end
section
namespace Go.Proofs.YtbokbbcoekeoaaaDoor.Q
open Go.RowKit Go.Proofs.YtbokbbcoekeoaaaDoorW.PrintWords Go.Proofs.YtbokbbcoekeoaaaDoorW.PrintMore Go.Proofs.YtbokbbcoekeoaaaDoor.P
set_option linter.unusedVariables false
def varAt (vs : List Vr) (i : Int) : Vr := rd_T77 vs i
def setS (vs : List Vr) (env : List Int) : List St → List Int → Option (List Int)
  | [], out => some out
  | s :: ss, out => if (evl s.f1 env).2 = 0 then (if (evl s.f1 env).1 < (varAt vs s.f0).f1 then none else if (evl s.f1 env).1 > (varAt vs s.f0).f2 then none else setS vs env ss (out.set s.f0.toNat (evl s.f1 env).1)) else none
def aftS (vs : List Vr) (env : List Int) (r : Rl) : Option (List Int) := if (evl r.f0 env).2 = 0 then (if (evl r.f0 env).1 = 0 then none else setS vs env r.f1 env) else none
def ans (o : Option (List Int)) : List Int × Bool := o.elim ([], false) (fun x => (x, true))
theorem varAt_get {vs : List Vr} {i : Int} (h0 : 0 ≤ i) (h1 : i < (vs.length : Int)) : vs[i.toNat]? = some (varAt vs i) := by
  have hi : i.toNat < vs.length := by omega
  have := rdV hi
  rw [Int.toNat_of_nonneg h0] at this
  rw [List.getElem?_eq_getElem hi, varAt, this]
theorem setS_in {vs : List Vr} {env : List Int} : ∀ {l : List St} {out o : List Int}, (∀ s ∈ l, 0 ≤ s.f0 ∧ s.f0 < (vs.length : Int)) → inS vs out → setS vs env l out = some o → inS vs o
  | [], out, o, _, hin, h => by obtain rfl := Option.some.inj h; exact hin
  | s :: l, out, o, hv, hin, h => by
    unfold setS at h
    have hs := hv s List.mem_cons_self
    split at h
    · split at h
      · cases h
      · split at h
        · cases h
        · exact setS_in (fun u hu => hv u (List.mem_cons_of_mem _ hu)) (inR_set hin (varAt_get hs.1 hs.2) (by omega) (by omega)) h
    · cases h
theorem aftS_in {vs : List Vr} {env o : List Int} {r : Rl} (hr : RuleOk vs.length r) (hin : inS vs env) (h : aftS vs env r = some o) : inS vs o := by
  unfold aftS at h
  split at h
  · split at h
    · cases h
    · exact setS_in hr.vr hin h
  · cases h
section
variable {vs : List Vr} {rs : List Rl}
theorem sets_loop (hv : VarsOk vs) {env : List Int} (he : inS vs env) (l : List St) (hll : l.length ≤ 100) (hvr : ∀ s ∈ l, 0 ≤ s.f0 ∧ s.f0 < (vs.length : Int)) (hvl : ∀ s ∈ l, ExOk vs.length false s.f1) :
    ∀ (d i : Nat) (out : List Int), i + d = l.length → out.length = vs.length → Ev (fun k => step_after.l0 k env out l (l.length : Int) (i : Int) vs rs) (ans (setS vs env (l.drop i) out)) := by
  intro d
  induction d with
  | zero =>
    intro i out hi ho
    refine Ev.step (f := fun _ => some (out, true)) (fun k => ?_) ?_
    · rw [step_after.l0, if_neg (by omega)]
    · rw [List.drop_of_length_le (by omega)]
      exact Ev.now _
  | succ d ih =>
    intro i out hi ho
    have hil : i < l.length := by omega
    have h1 := hvr _ (List.getElem_mem hil)
    have hd : l.drop i = l[i] :: l.drop (i + 1) := List.drop_eq_getElem_cons hil
    rw [hd]
    refine Ev.step (f := fun k => (expr_Eval.f k l[i].f1 env).bind fun b => if b.2 = 0 then (if b.1 < (varAt vs l[i].f0).f1 then some ([], false) else if b.1 > (varAt vs l[i].f0).f2 then some ([], false) else step_after.l0 k env (out.set l[i].f0.toNat b.1) l (l.length : Int) ((i + 1 : Nat) : Int) vs rs) else some ([], false)) (fun k => ?_) (Ev.bind (eval_in hv he (hvl _ (List.getElem_mem hil))) ?_)
    · rw [step_after.l0, if_pos (by omega), if_pos (by omega), if_pos (by omega), rdS hil, w64 (n := (i : Int) + 1) (by omega) (by omega)]
      simp only [if_pos h1.1, if_pos h1.2, if_pos (show l[i].f0 < (out.length : Int) by omega)]
      rfl
    · unfold setS
      by_cases c1 : (evl l[i].f1 env).2 = 0
      · simp only [if_pos c1]
        by_cases c2 : (evl l[i].f1 env).1 < (varAt vs l[i].f0).f1
        · simp only [if_pos c2]
          exact Ev.now _
        · simp only [if_neg c2]
          by_cases c3 : (evl l[i].f1 env).1 > (varAt vs l[i].f0).f2
          · simp only [if_pos c3]
            exact Ev.now _
          · simp only [if_neg c3]
            exact ih (i + 1) _ (by omega) (by simpa using ho)
      · simp only [if_neg c1]
        exact Ev.now _
theorem after_is (hv : VarsOk vs) {env : List Int} (he : inS vs env) {r : Rl} (hr : RuleOk vs.length r) : Ev (fun k => step_after.f k vs rs r.f0 r.f1 env) (ans (aftS vs env r)) := by
  have hl := hr.len
  have hel := inR_len he
  have hvl := hv.len
  unfold aftS
  refine Ev.bind (eval_in hv he hr.g) ?_
  by_cases c1 : (evl r.f0 env).2 = 0
  · simp only [if_pos c1]
    by_cases c2 : (evl r.f0 env).1 = 0
    · simp only [c2, if_true]
      refine Ev.step (f := fun _ => some ([], false)) (fun k => ?_) (Ev.now _)
      rw [step_after.j0, if_pos (by decide)]
    · simp only [if_neg c2, beq_eq_false_iff_ne.mpr c2]
      refine Ev.step (f := fun k => step_after.l0 k env env r.f1 (r.f1.length : Int) ((0 : Nat) : Int) vs rs) (fun k => ?_) ?_
      · rw [step_after.j0, if_neg (by decide)]
        unfold slices_Clone_int_int.f
        rw [if_pos (by omega)]
        rfl
      · exact sets_loop hv he r.f1 (by omega) hr.vr hr.vl r.f1.length 0 env (Nat.zero_add _) hel
  · simp only [if_neg c1]
    refine Ev.step (f := fun _ => some ([], false)) (fun k => ?_) (Ev.now _)
    rw [step_after.j0, if_pos rfl]
def cods (vs : List Vr) (env : List Int) (rs : List Rl) : List Int := rs.filterMap fun r => (aftS vs env r).map (codeS vs)
theorem cods_none {env : List Int} {r : Rl} {l : List Rl} (h : aftS vs env r = none) : cods vs env (r :: l) = cods vs env l := by
  unfold cods
  rw [List.filterMap_cons, h]
  rfl
theorem cods_some {env o : List Int} {r : Rl} {l : List Rl} (h : aftS vs env r = some o) : cods vs env (r :: l) = codeS vs o :: cods vs env l := by
  unfold cods
  rw [List.filterMap_cons, h]
  rfl
theorem cods_len (env : List Int) : (cods vs env rs).length ≤ rs.length := List.length_filterMap_le ..
theorem next_loop (h : ModelOk vs rs) {env : List Int} (he : inS vs env) (l : List Rl) (hll : l.length ≤ 1000) (hl : ∀ r ∈ l, RuleOk vs.length r) : ∀ (d i : Nat) (acc : List Int), i + d = l.length → acc.length ≤ i → Ev (fun k => step_next.l0 k env acc l (l.length : Int) (i : Int) vs rs) (uniq (acc ++ cods vs env (l.drop i))) := by
  intro d
  induction d with
  | zero =>
    intro i acc hi ha
    refine Ev.step (f := fun _ => some (uniq acc)) (fun k => ?_) ?_
    · rw [step_next.l0, if_neg (by omega), if_pos (by omega)]
    · rw [List.drop_of_length_le (by omega)]
      exact ev_some (by simp [cods])
  | succ d ih =>
    intro i acc hi ha
    have hil : i < l.length := by omega
    have hd : l.drop i = l[i] :: l.drop (i + 1) := List.drop_eq_getElem_cons hil
    have hri := hl _ (List.getElem_mem hil)
    refine Ev.step (f := fun k => (step_after.f k vs rs l[i].f0 l[i].f1 env).bind fun b => if b.2 = true then ((model_Code.f k vs rs b.1).bind fun c => if acc.length < 17592186044416 then step_next.l0 k env (acc ++ [c.1]) l (l.length : Int) ((i + 1 : Nat) : Int) vs rs else none) else step_next.l0 k env acc l (l.length : Int) ((i + 1 : Nat) : Int) vs rs) (fun k => ?_) (Ev.bind (after_is h.v he hri) ?_)
    · rw [step_next.l0, if_pos (by omega), if_pos (by omega), if_pos (by omega), rdR hil, w64 (n := (i : Int) + 1) (by omega) (by omega)]
      rfl
    · rw [hd]
      cases ho : aftS vs env l[i] with
      | none =>
        rw [cods_none ho]
        simp only [ans, Option.elim_none, Bool.false_eq_true, if_false]
        exact ih (i + 1) acc (by omega) (by omega)
      | some o =>
        rw [cods_some ho, show acc ++ codeS vs o :: cods vs env (l.drop (i + 1)) = (acc ++ [codeS vs o]) ++ cods vs env (l.drop (i + 1)) by simp]
        simp only [ans, Option.elim_some, if_true]
        refine Ev.bind (code_is h (aftS_in hri he ho)) ?_
        simp only [if_pos (show acc.length < 17592186044416 by omega)]
        exact ih (i + 1) _ (by omega) (by rw [List.length_append, List.length_singleton]; omega)
theorem next_is (h : ModelOk vs rs) {env : List Int} (he : inS vs env) : Ev (fun k => step_next.f k vs rs env) (uniq (cods vs env rs)) := by
  have hl := h.len
  have := next_loop h he rs (by omega) h.r rs.length 0 [] (Nat.zero_add _) (Nat.le_refl _)
  exact this
def nextS (vs : List Vr) (rs : List Rl) (c : Int) : List Int := if cods vs (valS vs c) rs = [] then [c] else uniq (cods vs (valS vs c) rs)
theorem Next_is (h : ModelOk vs rs) {c : Int} (h0 : 0 ≤ c) (h1 : c < cnt vs) : Ev (fun k => step_Next.f k vs rs c) (nextS vs rs c, 0) := by
  have hin := valS_in (l := vs) c h.v.le
  refine Ev.bind (values_is h h0 h1) ?_
  simp only [if_true]
  refine Ev.bind (next_is h hin) ?_
  unfold nextS
  by_cases e : cods vs (valS vs c) rs = []
  · rw [if_pos e, e, uniq_nil]
    exact Ev.now _
  · rw [if_neg e]
    have hne : uniq (cods vs (valS vs c) rs) ≠ [] := fun hh => e (uniq_empty.mp hh)
    have hl : (uniq (cods vs (valS vs c) rs)).length ≠ 0 := fun hh => hne (List.eq_nil_of_length_eq_zero hh)
    simp only [if_neg (show ¬ ((uniq (cods vs (valS vs c) rs)).length : Int) = 0 by omega)]
    exact Ev.now _
theorem cods_rng (h : ModelOk vs rs) {env : List Int} (he : inS vs env) {x : Int} (hx : x ∈ cods vs env rs) : 0 ≤ x ∧ x < cnt vs := by
  obtain ⟨r, hr, hm⟩ := List.mem_filterMap.mp hx
  obtain ⟨o, ho, rfl⟩ := Option.map_eq_some_iff.mp hm
  exact codeS_rng h.v.le (aftS_in (h.r r hr) he ho)
theorem nextS_mem {c x : Int} : x ∈ nextS vs rs c ↔ (x ∈ cods vs (valS vs c) rs ∨ cods vs (valS vs c) rs = [] ∧ x = c) := by
  unfold nextS
  by_cases e : cods vs (valS vs c) rs = []
  · rw [if_pos e, e]; simp
  · rw [if_neg e, uniq_mem]; simp [e]
theorem nextS_rng (h : ModelOk vs rs) {c : Int} (h0 : 0 ≤ c) (h1 : c < cnt vs) {x : Int} (hx : x ∈ nextS vs rs c) : 0 ≤ x ∧ x < cnt vs := by
  rcases nextS_mem.mp hx with hx | ⟨_, rfl⟩
  · exact cods_rng h (valS_in c h.v.le) hx
  · exact ⟨h0, h1⟩
theorem nextS_ne (c : Int) : nextS vs rs c ≠ [] := by
  unfold nextS
  split
  · simp
  · rename_i e; exact fun hh => e (uniq_empty.mp hh)
theorem nextS_len (c : Int) : (nextS vs rs c).length ≤ max rs.length 1 := by
  unfold nextS
  split
  · simp; omega
  · have a := uniq_len (cods vs (valS vs c) rs)
    have b := cods_len (vs := vs) (rs := rs) (valS vs c)
    omega
end
end Go.Proofs.YtbokbbcoekeoaaaDoor.Q
end
section
namespace Go.Proofs.YtbokbbcoekeoaaaDoor.Q
open Go.RowKit Go.Proofs.YtbokbbcoekeoaaaDoorW.PrintWords Go.Proofs.YtbokbbcoekeoaaaDoorW.PrintMore Go.Proofs.YtbokbbcoekeoaaaDoor.P
set_option linter.unusedVariables false
section
variable {vs : List Vr} {rs : List Rl} {ps : List (List Op)} {t : Tm}
def ltr (vs : List Vr) (ps : List (List Op)) (n : Int) : List Bool := ps.map (tr (valS vs n))
def spotsAt (vs : List Vr) (ps : List (List Op)) (t : Tm) (c cl n : Int) (m : Nat) : List Sp := ((List.range m).filter fun q : Nat => keepT (ltr vs ps c) (ltr vs ps n) (bit cl) (bit (q : Int)) 0 t).map fun q : Nat => (⟨n, (q : Int)⟩ : Sp)
theorem spotsAt_succ (c cl n : Int) (m : Nat) : spotsAt vs ps t c cl n (m + 1) = spotsAt vs ps t c cl n m ++ (if keepT (ltr vs ps c) (ltr vs ps n) (bit cl) (bit (m : Int)) 0 t = true then [(⟨n, (m : Int)⟩ : Sp)] else []) := by
  unfold spotsAt
  rw [List.range_succ, List.filter_append, List.map_append]
  congr 1
  by_cases q : keepT (ltr vs ps c) (ltr vs ps n) (bit cl) (bit (m : Int)) 0 t = true
  · rw [if_pos q, List.filter_cons_of_pos (by simpa using q)]; rfl
  · rw [if_neg q, List.filter_cons_of_neg (by simpa using q)]; rfl
theorem spotsAt_len (c cl n : Int) (m : Nat) : (spotsAt vs ps t c cl n m).length ≤ m := by
  unfold spotsAt
  rw [List.length_map]
  exact Nat.le_trans (List.length_filter_le _ _) (by simp)
theorem spotsAt_mem {c cl n : Int} {m : Nat} {x : Sp} : x ∈ spotsAt vs ps t c cl n m ↔ ∃ q : Nat, q < m ∧ keepT (ltr vs ps c) (ltr vs ps n) (bit cl) (bit (q : Int)) 0 t = true ∧ x = ⟨n, (q : Int)⟩ := by
  unfold spotsAt
  rw [List.mem_map]
  constructor
  · rintro ⟨q, hq, rfl⟩
    obtain ⟨h1, h2⟩ := List.mem_filter.mp hq
    exact ⟨q, List.mem_range.mp h1, h2, rfl⟩
  · rintro ⟨q, h1, h2, rfl⟩
    exact ⟨q, List.mem_filter.mpr ⟨List.mem_range.mpr h1, h2⟩, rfl⟩
def behL (vs : List Vr) (ps : List (List Op)) (t : Tm) (c cl : Int) (l : List Int) : List Sp := (l.map fun n => spotsAt vs ps t c cl n (2 ^ t.tempo)).flatten
theorem behL_len (c cl : Int) : ∀ l : List Int, (behL vs ps t c cl l).length ≤ l.length * 2 ^ t.tempo
  | [] => by simp [behL]
  | n :: l => by
    have h1 := behL_len c cl l
    have h2 := spotsAt_len (vs := vs) (ps := ps) (t := t) c cl n (2 ^ t.tempo)
    have e : behL vs ps t c cl (n :: l) = spotsAt vs ps t c cl n (2 ^ t.tempo) ++ behL vs ps t c cl l := rfl
    rw [e, List.length_append, List.length_cons, Nat.add_mul, Nat.one_mul]
    omega
theorem behL_snoc (c cl : Int) (l : List Int) (n : Int) : behL vs ps t c cl (l ++ [n]) = behL vs ps t c cl l ++ spotsAt vs ps t c cl n (2 ^ t.tempo) := by simp [behL]
theorem behL_mem {c cl : Int} {l : List Int} {x : Sp} : x ∈ behL vs ps t c cl l ↔ ∃ n ∈ l, ∃ q : Nat, q < 2 ^ t.tempo ∧ keepT (ltr vs ps c) (ltr vs ps n) (bit cl) (bit (q : Int)) 0 t = true ∧ x = ⟨n, (q : Int)⟩ := by
  unfold behL
  rw [List.mem_flatten]
  constructor
  · rintro ⟨m, hm, hx⟩
    obtain ⟨n, hn, rfl⟩ := List.mem_map.mp hm
    exact ⟨n, hn, spotsAt_mem.mp hx⟩
  · rintro ⟨n, hn, h⟩
    exact ⟨_, List.mem_map.mpr ⟨n, hn, rfl⟩, spotsAt_mem.mpr h⟩
theorem ltr_len (n : Int) : (ltr vs ps n).length = ps.length := List.length_map _
theorem spot_is (h : TaskOk vs rs ps t) {c cl : Int} (h0 : 0 ≤ c) (h1 : c < cnt vs) (hc : 0 ≤ cl) : Ev (fun k => product_spot.f k vs rs ps t.flat c cl) (decide (cl < ((2 ^ t.tempo : Nat) : Int))) := by
  refine Ev.bind (count_is h.m) ?_
  simp only [if_pos (show c ≥ 0 from h0), if_pos h1, if_pos (show cl ≥ 0 from hc)]
  exact Ev.bind (claims_many h) (Ev.now _)
theorem beh_l1 (h : TaskOk vs rs ps t) {c cl n i : Int} (hc : 0 ≤ cl) (hc2 : cl < ((2 ^ t.tempo : Nat) : Int)) {next : List Int} {acc : List Sp} (ha : acc.length ≤ 1000000) {e : List Sp × Int} (hn : Ev (fun k => product_Behind.l0 k (ltr vs ps c) (acc ++ spotsAt vs ps t c cl n (2 ^ t.tempo)) next (next.length : Int) (wrap64 (i + 1)) vs rs ps t.flat c cl) e) :
    ∀ (d m : Nat), m + d = 2 ^ t.tempo → Ev (fun k => product_Behind.l1 k (ltr vs ps c) (acc ++ spotsAt vs ps t c cl n m) n (ltr vs ps n) next (next.length : Int) i ((2 ^ t.tempo : Nat) : Int) (m : Int) vs rs ps t.flat c cl) e := by
  have h64 := pow_le6 h.t
  have hpl := h.p.1
  intro d
  induction d with
  | zero =>
    intro m hm
    obtain rfl : m = 2 ^ t.tempo := by omega
    refine Ev.step (fun k => ?_) hn
    rw [product_Behind.l1, if_neg (by omega)]
  | succ d ih =>
    intro m hm
    have hf := follows_is (L := ltr vs ps c) (L' := ltr vs ps n) (c := cl) (c' := (m : Int)) (by rw [ltr_len, ltr_len]) (by rw [ltr_len]; exact hpl) (by rw [ltr_len]; exact h.f) h.s h.t hc hc2 (by omega) (by omega)
    have hih := ih (m + 1) (by omega)
    rw [spotsAt_succ] at hih
    have hsl := spotsAt_len (vs := vs) (ps := ps) (t := t) c cl n m
    refine Ev.step (f := fun k => (logic_Follows.f k t.flat (ltr vs ps c) cl (ltr vs ps n) (m : Int)).bind fun bt496 => (if bt496.1 = true then (if (acc ++ spotsAt vs ps t c cl n m).length < 8796093022208 then (product_Behind.l1 k (ltr vs ps c) ((acc ++ spotsAt vs ps t c cl n m) ++ [(⟨n, (m : Int)⟩ : Sp)]) n (ltr vs ps n) next (next.length : Int) i ((2 ^ t.tempo : Nat) : Int) ((m + 1 : Nat) : Int) vs rs ps t.flat c cl) else (none)) else (product_Behind.l1 k (ltr vs ps c) (acc ++ spotsAt vs ps t c cl n m) n (ltr vs ps n) next (next.length : Int) i ((2 ^ t.tempo : Nat) : Int) ((m + 1 : Nat) : Int) vs rs ps t.flat c cl))) (fun k => ?_) (Ev.bind hf ?_)
    · rw [product_Behind.l1, if_pos (by omega), w64 (n := (m : Int) + 1) (by omega) (by omega)]
      rfl
    · by_cases q : keepT (ltr vs ps c) (ltr vs ps n) (bit cl) (bit (m : Int)) 0 t = true
      · rw [if_pos q, ← List.append_assoc] at hih
        simp only [if_pos q, if_pos (show (acc ++ spotsAt vs ps t c cl n m).length < 8796093022208 by rw [List.length_append]; omega)]
        exact hih
      · rw [if_neg q, List.append_nil] at hih
        simp only [if_neg q]
        exact hih
theorem beh_l0 (h : TaskOk vs rs ps t) {c cl : Int} (hc : 0 ≤ cl) (hc2 : cl < ((2 ^ t.tempo : Nat) : Int)) {next : List Int} (hn : ∀ x ∈ next, 0 ≤ x ∧ x < cnt vs) (hnl : next.length ≤ 1000) : ∀ (d i : Nat), i + d = next.length → Ev (fun k => product_Behind.l0 k (ltr vs ps c) (behL vs ps t c cl (next.take i)) next (next.length : Int) (i : Int) vs rs ps t.flat c cl) (behL vs ps t c cl next, 0) := by
  have h64 := pow_le6 h.t
  intro d
  induction d with
  | zero =>
    intro i hi
    rw [List.take_of_length_le (by omega)]
    refine Ev.step (f := fun _ => some (behL vs ps t c cl next, 0)) (fun k => ?_) (Ev.now _)
    rw [product_Behind.l0, if_neg (by omega)]
  | succ d ih =>
    intro i hi
    have hil : i < next.length := by omega
    have hx := hn _ (List.getElem_mem hil)
    have hih := ih (i + 1) (by omega)
    rw [List.take_add_one, List.getElem?_eq_getElem hil, Option.toList_some, behL_snoc] at hih
    have hbl : (behL vs ps t c cl (next.take i)).length ≤ 1000000 := by
      have h1 := behL_len (vs := vs) (ps := ps) (t := t) c cl (next.take i)
      have h2 : (next.take i).length ≤ 1000 := by rw [List.length_take]; omega
      have h3 := Nat.mul_le_mul h2 h64
      omega
    have hl : Ev (fun k => step_Letter.f k vs rs ps next[i]) (ltr vs ps next[i], 0) := letter_is h.m h.p hx.1 hx.2
    have h1 := beh_l1 h (c := c) (n := next[i]) (i := (i : Int)) hc hc2 hbl (by rw [w64 (n := (i : Int) + 1) (by omega) (by omega)]; exact hih) (2 ^ t.tempo) 0 (Nat.zero_add _)
    refine Ev.step (f := fun k => (step_Letter.f k vs rs ps next[i]).bind fun bt491 => ((product_claims.f k vs rs ps t.flat).bind fun t495 => (product_Behind.l1 k (ltr vs ps c) (behL vs ps t c cl (next.take i)) next[i] bt491.1 next (next.length : Int) (i : Int) t495 0 vs rs ps t.flat c cl))) (fun k => ?_) (Ev.bind hl (Ev.bind (claims_many h) ?_))
    · rw [product_Behind.l0, if_pos (by omega), if_pos (by omega), if_pos (by omega), rd_eq hil]
    · have e : spotsAt vs ps t c cl next[i] 0 = [] := rfl
      rw [e, List.append_nil] at h1
      exact h1
theorem behind_is (h : TaskOk vs rs ps t) (hr : rs.length ≤ 100) {c cl : Int} (h0 : 0 ≤ c) (h1 : c < cnt vs) (hc : 0 ≤ cl) : Ev (fun k => product_Behind.f k vs rs ps t.flat c cl) (if cl < ((2 ^ t.tempo : Nat) : Int) then (behL vs ps t c cl (nextS vs rs c), 0) else ([], 9)) := by
  refine Ev.bind (pcheck_is h) ?_
  simp only [if_true]
  refine Ev.bind (spot_is h h0 h1 hc) ?_
  by_cases q : cl < ((2 ^ t.tempo : Nat) : Int)
  · simp only [if_pos q, decide_eq_true q, if_true]
    refine Ev.bind (letter_is h.m h.p h0 h1) (Ev.bind (Next_is h.m h0 h1) ?_)
    have hl := nextS_len (vs := vs) (rs := rs) c
    exact beh_l0 h hc q (fun x hx => nextS_rng h.m h0 h1 hx) (by omega) _ 0 (Nat.zero_add _)
  · simp only [if_neg q, decide_eq_false q, Bool.false_eq_true, if_false]
    exact Ev.now _
end
end Go.Proofs.YtbokbbcoekeoaaaDoor.Q
end
section
namespace Go.Proofs.YtbokbbcoekeoaaaDoor.Q
open Go.RowKit Go.Proofs.YtbokbbcoekeoaaaDoorW.PrintWords Go.Proofs.YtbokbbcoekeoaaaDoorW.PrintMore Go.Proofs.YtbokbbcoekeoaaaDoor.P
set_option linter.unusedVariables false
def tx : Tm := .leaf ⟨2, 0⟩
def ty : Tm := .leaf ⟨2, 1⟩
def t1 : Tm := .leaf ⟨1, 1⟩
def ownTms : List Tm := [.bin ⟨7, 0⟩ tx t1, .bin ⟨7, 0⟩ tx ty, .bin ⟨6, 0⟩ tx ty]
def ownProps : List (List Op) := ownTms.map Tm.flat
theorem props_is : Ev (fun k => foretellkeep_props.f k) ownProps := by
  unfold foretellkeep_props.f
  refine Ev.bind (joined2 7 tx t1 (by decide)) (Ev.bind (joined2 7 tx ty (by decide)) (Ev.bind (joined2 6 tx ty (by decide)) ?_))
  exact Ev.now _
theorem tx_ty : Ty 2 false tx := .var 0 (by decide) (by decide)
theorem ty_ty : Ty 2 false ty := .var 1 (by decide) (by decide)
theorem t1_ty : Ty 2 false t1 := .num 1 (by decide) (by decide)
theorem own_ty : ∀ t ∈ ownTms, Ty 2 true t ∧ t.size ≤ 60 := by
  intro t ht
  simp only [ownTms, List.mem_cons, List.not_mem_nil, or_false] at ht
  rcases ht with rfl | rfl | rfl
  · exact ⟨.cmp 7 _ _ (.inr rfl) tx_ty t1_ty, by decide⟩
  · exact ⟨.cmp 7 _ _ (.inr rfl) tx_ty ty_ty, by decide⟩
  · exact ⟨.cmp 6 _ _ (.inl rfl) tx_ty ty_ty, by decide⟩
theorem ownProps_ok : PropsOk ((2 : Nat) : Int) ownProps := by
  refine ⟨by decide, fun p hp => ?_⟩
  obtain ⟨t, ht, rfl⟩ := List.mem_map.mp hp
  exact ⟨t, rfl, (own_ty t ht).1, (own_ty t ht).2⟩
theorem task_is {a b c d e f : Int} {l : List Pl} (h : DesignWf a b c d e f l) {raw : List Raw} (hr : rawWf raw) {tp : Int} (h0 : 0 ≤ tp) (h6 : tp ≤ 6) :
    ∃ vs rs t, Ev (fun k => foretellkeep_Task.f k a b c d e f l raw tp) (vs, rs, ownProps, t.flat) ∧ Own vs rs ∧ TaskOk vs rs ownProps t ∧ t.size ≤ 17 ∧ (t.tempo : Int) ≤ tp := by
  obtain ⟨vs, rs, hm, ho⟩ := own_model h
  obtain ⟨t, hf, sf, tf, ef⟩ := form_is hr tp h0 (by omega)
  refine ⟨vs, rs, t, Ev.bind hm (Ev.bind props_is (Ev.bind ef (Ev.now _))), ho, ⟨ho.m, by rw [ho.len]; exact ownProps_ok, hf, by omega, by omega⟩, sf, tf⟩
end Go.Proofs.YtbokbbcoekeoaaaDoor.Q
end
