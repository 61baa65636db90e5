-- PACKED by pack.py of this repo: FSccWay
import Derived.WalkSpells
import Derived.WalkLawsBesides
import Derived.Maps.OwnOps
import Derived.Maps.OwnSet
import Derived.Maps.Views
import Derived.Maps.Keyed
import Derived.ChangeKeys
import Derived.Test.YtpkigkmkolbiiaaK2
section
namespace Go.Proofs.Ytpkigkmkolbiiaa.P
open Go.RowKit Go.Proofs.YtpkigkmkolbiiaaW.PrintWords Go.Proofs.YtpkigkmkolbiiaaW.PrintLast Go.Proofs.YtpkigkmkolbiiaaW.PrintMore Go.Proofs.Ytpkigkmkolbiiaa.G
attribute [local go_sem] max2_int min2_int max_two min_two max_three min_three max_four min_four   -- for this text's walks alone
set_option linter.unusedVariables false
set_option linter.unusedSimpArgs false

--IMPORT Derived.WalkSpells
--IMPORT Derived.WalkLawsBesides
--IMPORT Derived.Maps.OwnOps
--IMPORT Derived.Maps.OwnSet
--IMPORT Derived.Maps.Views
--IMPORT Derived.Maps.Keyed
--IMPORT Derived.ChangeKeys
/-! ### scc_way: function 22 -/
open Go.Maps Go.WideMaps
namespace Way
/-- Where one came from, the newest first. -/
abbrev Bk := List (Int × Int)
def has : Bk → Int → Bool
  | [], _ => false
  | p :: b, k => p.1 == k || has b k
def at_ : Bk → Int → Int
  | [], _ => 0
  | p :: b, k => if p.1 = k then p.2 else at_ b k
def mp : Bk → DataW Unit
  | [] => .map []
  | p :: b => (mp b).put (.int .i64 p.1) (.lit (.int .i64 p.2))
theorem mp_map : ∀ b, IsMap (mp b)
  | [] => isMap_empty
  | _ :: b => (mp_map b).put _ _
theorem has_mp (k : Int) : ∀ b, Maps.has (mp b) (.int .i64 k) = has b k
  | [] => rfl
  | p :: b => by
    by_cases c : p.1 = k
    · subst c
      simp only [mp, has, beq_self_eq_true, Bool.true_or]
      exact has_put_same (mp_map b) (show WideAt.IsKeyLit (.int .i64 p.1) from trivial) _
    · simp only [mp, has, beq_eq_false_iff_ne.mpr c, Bool.false_or]
      rw [has_put_other (fun h => c (by injection h with h1; exact (by injection h1 : k = p.1).symm)), has_mp k b]
theorem at_mp (k : Int) : ∀ b, (mp b).atKey (.int .i64 k) (.lit (.int .i64 0)) = .lit (.int .i64 (at_ b k))
  | [] => rfl
  | p :: b => by
    by_cases c : p.1 = k
    · subst c
      simp only [mp, at_, if_true]
      exact atKey_put_same (mp_map b) (show WideAt.IsKeyLit (.int .i64 p.1) from trivial) _ _
    · simp only [mp, at_, if_neg c]
      rw [atKey_put_other (fun h => c (by injection h with h1; exact (by injection h1 : k = p.1).symm)), at_mp k b]
def start (n : Nat) (wanted : Int → Bool) : List Int → Bk → Option (Bk ⊕ Int)
  | [], b => some (.inl b)
  | i :: r, b => if 0 ≤ i ∧ i < (n : Int) ∧ b.length ≤ 1000000 then (if wanted i = true then some (.inr i) else start n wanted r ((i, -1) :: b)) else none
def row (n : Nat) (inside wanted : Int → Bool) (i : Int) : List Int → List Int → Bk → Option ((List Int × Bk) ⊕ (Int × Bk))
  | [], t, b => some (.inl (t, b))
  | k :: r, t, b => if 0 ≤ k ∧ k < (n : Int) ∧ t.length ≤ 1000000 ∧ b.length ≤ 1000000 then (if has b k = true then row n inside wanted i r t b else if inside k = true then (if wanted k = true then some (.inr (k, (k, i) :: b)) else row n inside wanted i r (t ++ [k]) ((k, i) :: b)) else row n inside wanted i r t b) else none
def path (n : Nat) (b : Bk) : Nat → Int → List Int → Option (List Int)
  | 0, _, _ => none
  | m + 1, k, l => if 0 ≤ k then (if k < (n : Int) ∧ l.length ≤ 1000000 then path n b m (at_ b k) (k :: l) else none) else some l
def main (nx : List (List Int)) (inside wanted : Int → Bool) (d : Nat) : Nat → List Int → Bk → Option (List Int)
  | 0, _, _ => none
  | _ + 1, [], _ => some []
  | m + 1, i :: t, b => if 0 ≤ i ∧ i < (nx.length : Int) then (row nx.length inside wanted i (rd_L1 nx i) t b).bind fun x => match x with
    | .inl p => main nx inside wanted d m p.1 p.2
    | .inr p => path nx.length p.2 d p.1 [] else none
def way (nx : List (List Int)) (inside wanted : Int → Bool) (d : Nat) (from_ : List Int) : Option (List Int) :=
  (start nx.length wanted from_ []).bind fun x => match x with
    | .inl b => main nx inside wanted d d from_ b
    | .inr i => some [i]
theorem path_mono (n : Nat) (b : Bk) : ∀ m k l, LeO (path n b m k l) (path n b (m + 1) k l)
  | 0, _, _ => LeO.none _
  | m + 1, k, l => by
    unfold path
    exact LeO.ite (LeO.ite (path_mono n b m _ _) (LeO.none _)) (LeO.refl _)
theorem main_mono (nx : List (List Int)) (inside wanted : Int → Bool) (d : Nat) : ∀ m t b, LeO (main nx inside wanted d m t b) (main nx inside wanted (d + 1) (m + 1) t b)
  | 0, _, _ => LeO.none _
  | m + 1, [], _ => LeO.refl _
  | m + 1, i :: t, b => by
    unfold main
    refine LeO.ite (LeO.bind (LeO.refl _) (fun x => ?_)) (LeO.none _)
    cases x with
    | inl p => exact main_mono nx inside wanted d m _ _
    | inr p => exact path_mono _ _ _ _ _
theorem way_mono (nx : List (List Int)) (inside wanted : Int → Bool) (d : Nat) (fr : List Int) : LeO (way nx inside wanted d fr) (way nx inside wanted (d + 1) fr) := by
  unfold way
  refine LeO.bind (LeO.refl _) (fun x => ?_)
  cases x with
  | inl b => exact main_mono _ _ _ _ _ _ _
  | inr i => exact LeO.refl _
theorem law : Keyed Try.prog 3 := int_keyed Try.underlying3
theorem key {n : Int} (h0 : 0 ≤ n) (h1 : n ≤ 1000000) : keyOf Try.prog 3 (.int .i64 n) = some (.int .i64 n) := by
  refine keyOf_int_mk Try.underlying3 ?_
  simp only [Lit.wf, IntKind.min, IntKind.max, IntKind.signed, IntKind.bits, Bool.and_eq_true, decide_eq_true_eq, if_true]
  omega
theorem map_at {P : Program} {k b n : Nat} {Rr : Value → Option (DataW Unit × List MemPlace)} {D : DataW Unit} {w w' : World} (h : w.ownsMap P k Rr b n D) (e : w'.heap[b]? = w.heap[b]?) : w'.ownsMap P k Rr b n D := by
  obtain ⟨es, cl, h1, h2⟩ := h
  exact ⟨es, cl, e.trans h1, h2⟩
theorem not_map {P : Program} {k b n e g : Nat} {cells : Array Value} {Rr : Value → Option (DataW Unit × List MemPlace)} {D : DataW Unit} {w : World} (h : w.ownsMap P k Rr b n D) (hc : w.heap[g]? = some (.cells cells e (0, 0))) : g ≠ b := by
  rintro rfl
  obtain ⟨es, cl, h1, _⟩ := h
  rw [hc] at h1
  cases h1
/-- The map, and what was done. -/
structure At (w0 w : World) (gm g4 : Nat) (cs : Array Value) (b : Bk) : Prop where
  mp : w.ownsMap Try.prog 3 (plainElem Try.prog 3) gm b.length (mp b)
  lt : gm < w.heap.size
  ge : w0.heap.size ≤ gm
  bel : Below w0.heap.size w0 w
  bx : w.heap[g4]? = some (.cells cs 59 (0, 0))
section
variable {w0 w w' : World} {gm g4 : Nat} {cs : Array Value} {b : Bk} {v : Value} {xs : List Int}
theorem At.below (h : At w0 w gm g4 cs b) (hb : Below w.heap.size w w') : At w0 w' gm g4 cs b :=
  ⟨map_at h.mp (hb.block _ h.lt), Nat.lt_of_lt_of_le h.lt hb.size, h.ge, below_step h.bel hb, blk_below h.bx hb⟩
theorem At.drewN (h : At w0 w gm g4 cs b) {q : Nat} (e : w' = w.drewN q) : At w0 w' gm g4 cs b := by
  subst e
  exact h.below (pw_below_drewN (Below.refl _ _) q)
theorem At.grown (h : At w0 w gm g4 cs b) {row : Option Nat} (hg : w.grownBy w' row) (hr : ∀ k, row = some k → w0.heap.size ≤ k) (hm : some gm ≠ row) (h4 : some g4 ≠ row) : At w0 w' gm g4 cs b :=
  ⟨map_at h.mp (hg.block gm h.lt hm), Nat.lt_of_lt_of_le h.lt hg.size, h.ge, h.bel.grown hg h.bel.size hr, blk_grown h.bx hg h4⟩
theorem At.put (h : At w0 w gm g4 cs b) {k v : Int} (hm : w'.ownsMap Try.prog 3 (plainElem Try.prog 3) gm (b.length + 1) ((Way.mp b).put (.int .i64 k) (.lit (.int .i64 v)))) (hg : w.grownBy w' (some gm)) : At w0 w' gm g4 cs ((k, v) :: b) :=
  ⟨hm, Nat.lt_of_lt_of_le h.lt hg.size, h.ge, h.bel.grown hg h.bel.size (fun k hk => by cases hk; exact h.ge), blk_grown h.bx hg (fun e => not_map h.mp h.bx (by injection e))⟩
theorem Q_map (h : At w0 w gm g4 cs b) {base : Nat} {ok : Nat → Prop} (hq : (Kd.int .i64).Q 3 w base ok v xs) (hg : w.grownBy w' (some gm)) : (Kd.int .i64).Q 3 w' base ok v xs :=
  Kd.Q_mono (Kd.Q_grown (Kd.Q_bound hq) hg (fun k hk he => by
    obtain ⟨_, _, _, q, _, cells, hc⟩ := hk
    exact not_map h.mp hc (by injection he))) (fun _ hk => hk.1)
theorem ne_row (h : At w0 w gm g4 cs b) {base : Nat} {ok : Nat → Prop} (hq : (Kd.int .i64).Q 3 w base ok v xs) : some gm ≠ v.ownBlock := fun he => by
  obtain ⟨cells, hc⟩ := Kd.Q_typed hq gm he.symm
  exact not_map h.mp hc rfl
theorem ne_box (h : At w0 w gm g4 cs b) {base : Nat} {ok : Nat → Prop} (hq : (Kd.int .i64).Q 3 w base ok v xs) : some g4 ≠ v.ownBlock := Kd.Q_ne hq h.bx (by decide)
theorem At.app (h : At w0 w gm g4 cs b) {ok : Nat → Prop} (hq : (Kd.int .i64).Q 3 w w0.heap.size ok v xs) (hg : w.grownBy w' v.ownBlock) : At w0 w' gm g4 cs b :=
  h.grown hg (Kd.Q_base hq) (ne_row h hq) (ne_box h hq)
end
end Way
set_option maxHeartbeats 16000000 in
set_option maxRecDepth 100000 in
theorem scc_way.calls (inside wanted : Int → Bool) (fi fw : FuncId) (ci cw : Array Value) (d : Nat) (As : Option Addr) (cs : Nat) (sp : List S45) (f0 : Int) (An : Option Addr) (cn : Nat) (nx : List (List Int)) (Am : Option Addr) (cm : Nat) (ms : List Int) (many : Int) (Af : Option Addr) (cf : Nat) (from_ r : List Int) (w : World)
    (hn : Kd.C (Kd.slice 3 (Kd.int .i64)) w An nx.length nx) (hl : nx.length ≤ 1000000) (hrow : ∀ i : Int, (rd_L1 nx i).length ≤ 1000000) (hf : Kd.C (Kd.int .i64) w Af from_.length from_) (hfl : from_.length ≤ 1000000)
    (hi : ∀ (w1 : World) (i : Int), Below w.heap.size w w1 → 0 ≤ i → i < (nx.length : Int) → Calls Try.prog fi (#[.int .i64 i] ++ ci) w1 fun e w' => e = .returned (.bool (inside i)) ∧ ∃ q : Nat, w' = w1.drewN q)
    (hw : ∀ (w1 : World) (i : Int), Below w.heap.size w w1 → 0 ≤ i → i < (nx.length : Int) → Calls Try.prog fw (#[.int .i64 i] ++ cw) w1 fun e w' => e = .returned (.bool (wanted i)) ∧ ∃ q : Nat, w' = w1.drewN q)
    (hci : ∀ (args : Array Value) (w : World), (callFunc fi args).run Try.prog w = .ok (.enter fi args) w) (hcw : ∀ (args : Array Value) (w : World), (callFunc fw args).run Try.prog w = .ok (.enter fw args) w)
    (h : Way.way nx inside wanted d from_ = some r) :
    Calls Try.prog 22 #[.agg #[.slice As sp.length cs, .int .i64 f0, .slice An nx.length cn, .slice Am ms.length cm, .int .i64 many], .slice Af from_.length cf, .func (.func fi) #[] ci, .func (.func fw) #[] cw] w fun e w' => ∃ v, e = .returned v ∧ Kd.R (Kd.int .i64) 3 w' w.heap.size (fun _ => True) v r ∧ Below w.heap.size w w' := by
  have info3 := (by kernel_rfl : (Try.prog.info? 3).map (fun i => (i.zero, i.size, i.bytes)) = some (some (.int .i64 0), 1, 8))
  have hmm := @run_makeMap Try.prog
  have hz3 : ∀ w : World, (zeroValue 3).run Try.prog w = .ok (.int .i64 0) w := fun w => by kernel_rfl
  unfold Way.way at h
  obtain ⟨X, hs, h⟩ := Option.bind_eq_some_iff.mp h
  have HN := Aside0.mk hn
  have HL := Aside0.mk hl
  have HRW := Aside0.mk hrow
  have HF := Aside0.mk hf
  have HFL := Aside0.mk hfl
  have HI := Aside0.mk hi
  have HW := Aside0.mk hw
  have HS := Aside0.mk hs
  have HX := Aside0.mk h
  clear hn hl hrow hf hfl hi hw hs h
  go_enter Try.func22, Try.ntmps22
  go_upto_region 3 with (first | ((with_reducible refine gD 4 rfl ?_); go_must (refine boxQ 4 #[.slice As sp.length cs, .int .i64 f0, .slice An nx.length cn, .slice Am ms.length cm, .int .i64 many] 59 ?_; intro g4 hg w1 hbox hb; have BK4 := Aside0.mk hbox; have B1 := Aside0.mk hb; clear hbox hb hg)) | (at_builtin; go_must (refine Kd.R_append_rows (Kd.int .i64) (Rr := (Kd.int .i64).K w) (w0 := w) w.heap.size rfl (.const (.slice none 0 0)) (.tmp 20) 23 3 (.int .i64 0) 8 rfl Try.underlying23 info3 rfl (by decide) (by omega) (.slice none 0 0) ([] : List Int) from_ Af from_.length cf (fun _ => True) (fun _ => False) rfl rfl (Kd.R_nil _ _ _ _ _) (Kd.C_below HF.out (below_alloc B1.out _)) (fun _ _ h => h) (fun _ hk => hk.elim) (fun _ _ => trivial) (below_alloc B1.out _) (below_size (below_alloc B1.out _)) (by have := HFL.out; simp; omega) ?_; intro va w2 hra hba hga hata; rw [List.nil_append] at hra; have A2 := Aside0.mk (Way.At.grown (w := w1.alloc (.map #[] 0)) (gm := w1.heap.size) (b := []) (g4 := g4) (cs := #[.slice As sp.length cs, .int .i64 f0, .slice An nx.length cn, .slice Am ms.length cm, .int .i64 many]) ⟨World.ownsMap_made _ _ _ _, by rw [World.size_alloc]; exact Nat.lt_succ_self _, below_size B1.out, below_alloc B1.out _, blk_alloc BK4.out _⟩ hga (fun k hk => by simp [Value.ownBlock] at hk) (by simp [Value.ownBlock]) (by simp [Value.ownBlock])); have QA := Aside0.mk (Kd.Q_of_R hra); clear hra hba hga hata)))
  generalize w1.heap.size = gm at A2 ⊢
  go_wp2
  go_loopg [24] from_.length (fun kq v24 wr => ∃ (j : Nat) (b : Way.Bk), v24 = .int .i64 j ∧ j + kq = from_.length ∧ Aside0 (Way.start nx.length wanted (from_.drop j) b = some X) ∧ Aside0 (Way.At w wr gm g4 #[.slice As sp.length cs, .int .i64 f0, .slice An nx.length cn, .slice Am ms.length cm, .int .i64 many] b) ∧ Aside0 (Kd.Q (Kd.int .i64) 3 wr w.heap.size (fun _ => True) va from_))
  case atStart => exact ⟨0, [], rfl, by omega, ⟨by rw [List.drop_zero]; exact HS.out⟩, A2, QA⟩
  case round =>
    clear A2 QA HS
    obtain ⟨j, b, rfl, hj, HS, HA, HQ⟩ := hrel
    by_cases hlt : j < from_.length
    · have hd : from_.drop j = from_[j] :: from_.drop (j + 1) := List.drop_eq_getElem_cons hlt
      have hs := HS.out
      rw [hd] at hs
      simp only [Way.start] at hs
      obtain ⟨hc, hs1⟩ := iN hs
      clear hs
      have hrd : Go.Proofs.YtpkigkmkolbiiaaW.PrintWords.rd from_ (j : Int) = from_[j] := by
        unfold Go.Proofs.YtpkigkmkolbiiaaW.PrintWords.rd
        rw [Int.toNat_natCast, List.getD_eq_getElem?_getD, List.getElem?_eq_getElem hlt]
        rfl
      obtain ⟨ad, e1, hx⟩ := Kd.at_int (Kd.C_below HF.out HA.out.bel) (j : Int) (by omega) (by omega)
      rw [hrd, Int.toNat_natCast] at hx
      obtain ⟨x, hx0⟩ : ∃ x, x = from_[j] := ⟨_, rfl⟩
      rw [← hx0] at hc hs1 hx
      subst e1
      have b1 : decide ((j : Int) < (from_.length : Int)) = true := decide_eq_true (by omega)
      have b2 : ((j : Int) < (from_.length : Int)) = True := eq_true (by omega)
      have b3 : wrap64 ((j : Int) + 1) = ((j + 1 : Nat) : Int) := by have := HFL.out; unfold wrap64; omega
      have HJ := Aside0.mk hj
      have HT := Aside0.mk hlt
      have HC := Aside0.mk hc
      have HS2 := Aside0.mk hs1
      have HK := Aside0.mk (Way.key hc.1 (by have := HL.out; omega))
      clear hx0 hj hlt hd hs1 hc hrd HS
      go_wp2_with (at_mapUpdate; go_must (refine wpList_mapUpdate_own _ rfl (.tmp 28) (.tmp 29) (.const (.int .i64 (-1))) 66 rfl 3 3 Way.law Try.underlying66 (plainElem Try.prog 3) gm _ (Way.mp b) rfl HA.out.mp (by have := HC.out.2.2; unfold maxLen; omega) (.int .i64 x) (.int .i64 (-1)) (.int .i64 x) rfl rfl HK.out (.lit (.int .i64 (-1))) [] (plainElem_int Try.underlying3 (by decide)) ?_; intro w3 hown hgrow; have HA3 := Aside0.mk (Way.At.put HA.out hown hgrow); have HQ3 := Aside0.mk (Way.Q_map HA.out HQ.out hgrow); clear hown hgrow))
      refine (HW.out _ x HA3.out.bel HC.out.1 HC.out.2.1).mono ?_
      rintro e w4 ⟨rfl, q4, hw4⟩
      have HA3 := Aside0.mk (Way.At.drewN HA3.out hw4)
      have HQ3 := Aside0.mk (Kd.Q_at hw4.symm HQ3.out)
      clear hw4
      by_cases hwx : wanted x = true
      · rw [hwx]
        go_wp2_with (((with_reducible refine gD 34 rfl ?_); go_must (refine Kd.R_lit (Kd.int .i64) (w0 := w) w.heap.size 3 ?hg (N := 34) ?hd (xs := [x]) (inner := [.int .i64 x]) (ok := fun _ => True) (okp := fun _ => True) ?hr ?hp (fun _ hk => hk) trivial HA3.out.bel (below_size HA3.out.bel) (by simp) ?_; (case hd => rfl); (case hg => rfl); (case hr => first | (go_simp; done) | (go_simp; rfl)); (case hp => exact Reps.one (show Kd.M (Kd.int .i64) _ _ _ x [.int .i64 x] from rfl) (Reps.none _ _)); intro v5 w5 ho hb hg hn; have LO := Aside0.mk ho; have LB := Aside0.mk hb; clear ho hb hg hn)))
        go_ret
        have hs := HS2.out
        rw [if_pos hwx] at hs
        obtain rfl := Option.some.inj hs
        obtain rfl := Option.some.inj HX.out
        exact ⟨_, rfl, LO.out, LB.out⟩
      · have hwf : wanted x = false := by simpa using hwx
        rw [hwf]
        go_wp2
        go_roundg (from_.length - (j + 1))
        case measure => have := HJ.out; have := HT.out; omega
        case rel =>
          have hs := HS2.out
          rw [if_neg hwx] at hs
          exact ⟨j + 1, (x, -1) :: b, by rw [b3], by have := HT.out; omega, ⟨hs⟩, HA3, HQ3⟩
    · have b1 : decide ((j : Int) < (from_.length : Int)) = false := decide_eq_false (by omega)
      have b2 : ((j : Int) < (from_.length : Int)) = False := eq_false (by omega)
      have hs := HS.out
      rw [List.drop_eq_nil_of_le (by omega)] at hs
      obtain rfl := Option.some.inj hs
      clear hs hj hlt HS
      clear BK4 B1
      go_wp2
      clear b1 b2
      go_loopg [10] d (fun kq v10 wr => ∃ (t : List Int) (b : Way.Bk), Aside0 (Way.main nx inside wanted d kq t b = some r) ∧ Aside0 (Way.At w wr gm g4 #[.slice As sp.length cs, .int .i64 f0, .slice An nx.length cn, .slice Am ms.length cm, .int .i64 many] b) ∧ Aside0 (Kd.Q (Kd.int .i64) 3 wr w.heap.size (fun _ => True) v10 t))
      case atStart => exact ⟨from_, b, HX, HA, HQ⟩
      case round =>
        clear HX HA HQ
        obtain ⟨t, b, HM, HA, HQ⟩ := hrel
        obtain ⟨m, hgk⟩ : ∃ m, gk = m + 1 := by
          cases hgk : gk with
          | zero => rw [hgk] at HM; exact absurd HM.out (by simp [Way.main])
          | succ m => exact ⟨m, rfl⟩
        have hmain := HM.out
        rw [hgk] at hmain
        have HGK := Aside0.mk hgk
        clear HM hgk
        obtain ⟨A, c, hv, hl⟩ := Kd.Q_slice HQ.out
        obtain ⟨n, hn⟩ : ∃ n : Nat, n = t.length := ⟨_, rfl⟩
        rw [← hn] at hv hl
        subst hv
        cases t with
        | nil =>
          have hn0 : n = 0 := hn
          subst hn0
          simp only [Way.main] at hmain
          obtain rfl := Option.some.inj hmain
          clear hmain hn hl
          go_wp2
          go_ret
          exact ⟨_, rfl, Kd.R_nil _ _ _ _ _, HA.out.bel⟩
        | cons i t =>
          simp only [Way.main] at hmain
          obtain ⟨hi, hmain⟩ := iN hmain
          obtain ⟨Y, hrow, hY⟩ := Option.bind_eq_some_iff.mp hmain
          clear hmain
          have hn1 : n = t.length + 1 := hn
          obtain ⟨-, -, hC⟩ := Kd.Q_reads' HQ.out
          obtain ⟨ad, e1, hx⟩ := Kd.at_int hC 0 (by omega) (by simp only [List.length_cons]; omega)
          have hx0 : Go.Proofs.YtpkigkmkolbiiaaW.PrintWords.rd (i :: t) 0 = i := rfl
          rw [hx0, Int.toNat_zero] at hx
          subst e1
          clear hx0 hC
          have hx' : wr.cell? ad = some (.int .i64 i) := by rw [← hx]; rfl
          have hg2 : wr.cell? ⟨g4, 2, none⟩ = some (.slice An nx.length cn) := (blk_cell HA.out.bx 2).trans rfl
          obtain ⟨ad2, cc2, e2, hcl, ⟨A1, c1, rfl, hl1, hC1⟩, hcell⟩ := Kd.C_get (Kd.C_below HN.out HA.out.bel) ([] : List Int) i hi.1 hi.2
          have hx2 := hcell 0 _ rfl
          simp only [show (Kd.slice 3 (Kd.int .i64)).sz = 1 from rfl, Nat.mul_one, Nat.add_zero] at hx2
          have hrl := HRW.out i
          rw [show rd_L1 nx i = nx.getD i.toNat [] from rfl] at hrow hrl
          have hC0 : Kd.C (Kd.int .i64) w A1 (nx.getD i.toNat []).length (nx.getD i.toNat []) := by
            obtain ⟨ad3, cc3, e3, _, ⟨A3, c3, rfl, _, hC3⟩, hcell3⟩ := Kd.C_get HN.out ([] : List Int) i hi.1 hi.2
            obtain rfl : ad2 = ad3 := by rw [e2] at e3; exact Option.some.inj e3
            have h3 := hcell3 0 _ rfl
            simp only [show (Kd.slice 3 (Kd.int .i64)).sz = 1 from rfl, Nat.mul_one, Nat.add_zero] at h3
            have h4 := (HA.out.bel.cell (World.block_lt_of_cell? w _ h3)).trans h3
            rw [hx2] at h4
            injection h4 with h4
            injection h4 with h4
            rw [h4]
            exact hC3
          clear hcell hcl hC1
          generalize nx.getD i.toNat ([] : List Int) = l at *
          subst e2
          have hcut : ∀ W : World, (Instr.slice 23 (.slice (some ad) n c) (some (.int .i64 1)) none none).run Try.prog W = .ok (.slice (if c = 1 then some ad else (some ad).map (·.add (1 * 1))) (n - 1) (c - 1)) W := by
            obtain ⟨i0, hi0, _, hsz, _⟩ := info_parts info3
            intro W
            rw [cut_from 23 3 .i64 Try.underlying23 hi0 1 hsz (some ad) n c 1 (by omega) (by omega) W, show (1 : Int).toNat = 1 from rfl]
          have hq2 := Kd.Q_drop (k := 1) HQ.out (by simp)
          rw [show (Kd.int .i64).sz = 1 from rfl, show List.drop 1 (i :: t) = t from rfl] at hq2
          generalize Value.slice (if c = 1 then some ad else (some ad).map (·.add (1 * 1))) (n - 1) (c - 1) = v2 at hcut hq2
          have HQ2 := Aside0.mk hq2
          have HC1 := Aside0.mk hC0
          have HLL := Aside0.mk hrl
          have HR := Aside0.mk hrow
          have HY := Aside0.mk hY
          have HI0 := Aside0.mk hi
          have i0 := eq_true hi.1
          have i1 := eq_true hi.2
          have n1 : decide ((n : Int) > 0) = true := decide_eq_true (by omega)
          have n2 : ((0 : Int) < (n : Int)) = True := eq_true (by omega)
          have n3 : (0 < n) = True := eq_true (by omega)
          clear hq2 hC0 hrl hrow hY hi hn hn1 hl hl1 HQ
          go_wp2
          clear i0 i1 n1 n2 n3 hcut hx hx' hg2 hx2
          go_loopg [10, 51] l.length (fun kq v10 v51 wr => ∃ (q : Nat) (t : List Int) (b : Way.Bk), v51 = .int .i64 q ∧ q + kq = l.length ∧ Aside0 (Way.row nx.length inside wanted i (l.drop q) t b = some Y) ∧ Aside0 (Way.At w wr gm g4 #[.slice As sp.length cs, .int .i64 f0, .slice (some ad2) nx.length cn, .slice Am ms.length cm, .int .i64 many] b) ∧ Aside0 (Kd.Q (Kd.int .i64) 3 wr w.heap.size (fun _ => True) v10 t))
          case atStart => exact ⟨0, t, b, rfl, by omega, ⟨by rw [List.drop_zero]; exact HR.out⟩, HA, HQ2⟩
          case round =>
            clear HR HA HQ2
            obtain ⟨q, t, b, rfl, hj, HR, HA, HQ⟩ := hrel
            by_cases hlt : q < l.length
            · have hd : l.drop q = l[q] :: l.drop (q + 1) := List.drop_eq_getElem_cons hlt
              have hs := HR.out
              rw [hd] at hs
              simp only [Way.row] at hs
              obtain ⟨hc, hs1⟩ := iN hs
              clear hs
              have hrd : Go.Proofs.YtpkigkmkolbiiaaW.PrintWords.rd l (q : Int) = l[q] := by
                unfold Go.Proofs.YtpkigkmkolbiiaaW.PrintWords.rd
                rw [Int.toNat_natCast, List.getD_eq_getElem?_getD, List.getElem?_eq_getElem hlt]
                rfl
              obtain ⟨ad, e1, hx⟩ := Kd.at_int (Kd.C_below HC1.out HA.out.bel) (q : Int) (by omega) (by omega)
              rw [hrd, Int.toNat_natCast] at hx
              obtain ⟨x, hx0⟩ : ∃ x, x = l[q] := ⟨_, rfl⟩
              rw [← hx0] at hc hs1 hx
              subst e1
              have b1 : decide ((q : Int) < (l.length : Int)) = true := decide_eq_true (by omega)
              have b2 : ((q : Int) < (l.length : Int)) = True := eq_true (by omega)
              have b3 : wrap64 ((q : Int) + 1) = ((q + 1 : Nat) : Int) := by have := HLL.out; unfold wrap64; omega
              have HJ := Aside0.mk hj
              have HT := Aside0.mk hlt
              have HC := Aside0.mk hc
              have HS2 := Aside0.mk hs1
              have HK := Aside0.mk (Way.key hc.1 (by have := HL.out; omega))
              clear hx0 hj hlt hd hs1 hc hrd HR
              cases hhb : Way.has b x with
              | true =>
                go_wp2_with (at_lookup; go_must (refine wpList_lookup_own_ok_int _ rfl (.tmp 56) (.tmp 57) 66 rfl 3 3 .i64 Way.law Try.underlying66 Try.underlying3 (hz3 _) gm _ (Way.mp b) rfl HA.out.mp (.int .i64 x) (.int .i64 x) rfl HK.out ?_; intro c0 hat hwc; rw [Way.has_mp, hhb]))
                go_roundg (l.length - (q + 1))
                case measure => have := HJ.out; have := HT.out; omega
                case rel =>
                  have hs := HS2.out
                  rw [if_pos hhb] at hs
                  exact ⟨q + 1, t, b, by rw [b3], by have := HT.out; omega, ⟨hs⟩, HA, HQ⟩
              | false =>
                go_wp2_with (at_lookup; go_must (refine wpList_lookup_own_ok_int _ rfl (.tmp 56) (.tmp 57) 66 rfl 3 3 .i64 Way.law Try.underlying66 Try.underlying3 (hz3 _) gm _ (Way.mp b) rfl HA.out.mp (.int .i64 x) (.int .i64 x) rfl HK.out ?_; intro c0 hat hwc; rw [Way.has_mp, hhb]))
                refine (HI.out _ x HA.out.bel HC.out.1 HC.out.2.1).mono ?_
                rintro e w4 ⟨rfl, q4, hw4⟩
                have HA := Aside0.mk (Way.At.drewN HA.out hw4)
                have HQ := Aside0.mk (Kd.Q_at hw4.symm HQ.out)
                clear hw4
                have hs := HS2.out
                rw [if_neg (by rw [hhb]; decide)] at hs
                clear HS2
                cases hix : inside x with
                | false =>
                  rw [if_neg (by rw [hix]; decide)] at hs
                  have HS3 := Aside0.mk hs
                  clear hs
                  go_wp2
                  go_roundg (l.length - (q + 1))
                  case measure => have := HJ.out; have := HT.out; omega
                  case rel => exact ⟨q + 1, t, b, by rw [b3], by have := HT.out; omega, ⟨HS3.out⟩, HA, HQ⟩
                | true =>
                  rw [if_pos hix] at hs
                  have HS3 := Aside0.mk hs
                  clear hs
                  go_wp2_with (first | (at_mapUpdate; go_must (refine wpList_mapUpdate_own _ rfl (.tmp 68) (.tmp 69) (.tmp 70) 66 rfl 3 3 Way.law Try.underlying66 (plainElem Try.prog 3) gm _ (Way.mp b) rfl HA.out.mp (by have := HC.out.2.2.2; unfold maxLen; omega) (.int .i64 x) (.int .i64 i) (.int .i64 x) rfl rfl HK.out (.lit (.int .i64 i)) [] (plainElem_int Try.underlying3 (by have := HI0.out; have := HL.out; simp only [Lit.wf, IntKind.min, IntKind.max, IntKind.signed, IntKind.bits, Bool.and_eq_true, decide_eq_true_eq, if_true]; omega)) ?_; intro w3 hown hgrow; have HA3 := Aside0.mk (Way.At.put HA.out hown hgrow); have HQ3 := Aside0.mk (Way.Q_map HA.out HQ.out hgrow); clear hown hgrow)) | (at_builtin; go_must (refine Kd.Q_append (Kd.int .i64) (w0 := w) w.heap.size rfl (.tmp 71) (.tmp 73) 23 3 (.int .i64 0) 8 rfl Try.underlying23 info3 rfl (by decide) (by omega) _ t x [.int .i64 x] (fun _ => True) (fun _ => False) rfl rfl rfl (fun _ hk => hk.elim) (fun _ _ => trivial) HQ3.out HA3.out.bel (below_size HA3.out.bel) (by have := HC.out; omega) ?_; intro v5 w5 hq hb hg hn; have HA5 := Aside0.mk (Way.At.app HA3.out HQ3.out hg); have HQ5 := Aside0.mk hq; clear hq hb hg hn)))
                  refine (HW.out _ x HA5.out.bel HC.out.1 HC.out.2.1).mono ?_
                  rintro e w6 ⟨rfl, q6, hw6⟩
                  have HA5 := Aside0.mk (Way.At.drewN HA5.out hw6)
                  have HQ5 := Aside0.mk (Kd.Q_at hw6.symm HQ5.out)
                  clear hw6
                  have hs := HS3.out
                  clear HS3
                  cases hwx : wanted x with
                  | false =>
                    rw [if_neg (by rw [hwx]; decide)] at hs
                    have HS4 := Aside0.mk hs
                    clear hs
                    go_wp2
                    go_roundg (l.length - (q + 1))
                    case measure => have := HJ.out; have := HT.out; omega
                    case rel => exact ⟨q + 1, t ++ [x], (x, i) :: b, by rw [b3], by have := HT.out; omega, ⟨HS4.out⟩, HA5, HQ5⟩
                  | true =>
                    rw [if_pos hwx] at hs
                    obtain rfl := Option.some.inj hs
                    clear hs HQ3 HA3 HQ5 HQ HA
                    go_wp2
                    go_loopg [15, 18] d (fun kq v15 v18 wr => ∃ (k : Int) (ls : List Int), v15 = .int .i64 k ∧ Aside0 (Way.path nx.length ((x, i) :: b) kq k ls = some r) ∧ Aside0 (Way.At w wr gm g4 #[.slice As sp.length cs, .int .i64 f0, .slice (some ad2) nx.length cn, .slice Am ms.length cm, .int .i64 many] ((x, i) :: b)) ∧ Aside0 (Kd.R (Kd.int .i64) 3 wr w.heap.size (fun _ => True) v18 ls))
                    case atStart => exact ⟨x, [], rfl, HY, HA5, ⟨Kd.R_nil _ _ _ _ _⟩⟩
                    case round =>
                      clear HY HA5
                      obtain ⟨k, ls, rfl, HP, HA, HRR⟩ := hrel
                      obtain ⟨p, hgk⟩ : ∃ p, gk = p + 1 := by
                        cases hgk : gk with
                        | zero => rw [hgk] at HP; exact absurd HP.out (by simp [Way.path])
                        | succ p => exact ⟨p, rfl⟩
                      have hp := HP.out
                      rw [hgk] at hp
                      have HGP := Aside0.mk hgk
                      clear HP hgk
                      obtain ⟨AL, cL, rfl, hlL, hCL⟩ := Kd.Q_reads (Kd.Q_of_R HRR.out)
                      simp only [Way.path] at hp
                      by_cases hk0 : 0 ≤ k
                      · rw [if_pos hk0] at hp
                        obtain ⟨hkc, hp⟩ := iN hp
                        have HKC := Aside0.mk hkc
                        have HP := Aside0.mk hp
                        have HK0 := Aside0.mk hk0
                        have HCL := Aside0.mk hCL
                        have HKK := Aside0.mk (Way.key hk0 (by have := HL.out; omega))
                        have b1 : decide (k ≥ 0) = true := decide_eq_true hk0
                        have b2 : (0 ≤ k) = True := eq_true hk0
                        clear hkc hk0 hlL hCL
                        go_wp2_with (first | ((with_reducible refine gD 84 rfl ?_); go_must (refine Kd.R_lit (Kd.int .i64) (w0 := wr) wr.heap.size 3 ?hg (N := 84) ?hd (xs := [k]) (inner := [.int .i64 k]) (ok := fun _ => True) (okp := fun _ => True) ?hr ?hp (fun _ hk => hk) trivial (Below.refl _ _) (Nat.le_refl _) (by simp) ?_; (case hd => rfl); (case hg => rfl); (case hr => first | (go_simp; done) | (go_simp; rfl)); (case hp => exact Reps.one (show Kd.M (Kd.int .i64) _ _ _ k [.int .i64 k] from rfl) (Reps.none _ _)); intro v5 w5 ho hb hg hn; have LO := Aside0.mk (Kd.R_lower ho (below_size HA.out.bel)); have LB := Aside0.mk hb; clear ho hb hg hn)) | (at_builtin; go_must (refine Kd.R_append_rows (Kd.int .i64) (Rr := (Kd.int .i64).K w) (w0 := w) w.heap.size rfl (.tmp 84) (.tmp 85) 23 3 (.int .i64 0) 8 rfl Try.underlying23 info3 rfl (by decide) (by omega) v5 [k] ls AL ls.length cL (fun _ => True) (fun _ => False) rfl rfl LO.out (Kd.C_below HCL.out LB.out) (fun _ _ h => h) (fun _ hk => hk.elim) (fun _ _ => trivial) (below_step HA.out.bel LB.out) (below_size (below_step HA.out.bel LB.out)) (by have := HKC.out; simp only [List.length_cons, List.length_nil]; omega) ?_; intro v6 w6 hra hba hga hata; have HA6 := Aside0.mk (Way.At.app (Way.At.below HA.out LB.out) (Kd.Q_of_R LO.out) hga); have HR6 := Aside0.mk hra; clear hra hba hga hata)) | (at_lookup; go_must (refine wpList_lookup_own_int _ rfl (.tmp 80) (.tmp 81) 66 rfl 3 3 .i64 Way.law Try.underlying66 Try.underlying3 (hz3 _) gm _ (Way.mp ((x, i) :: b)) rfl HA6.out.mp (.int .i64 k) (.int .i64 k) rfl HKK.out ?_; intro c0 hat hwc; rw [Way.at_mp] at hat; obtain rfl : Way.at_ ((x, i) :: b) k = c0 := (by injection hat with hat; injection hat); clear hat hwc)))
                        go_roundg p
                        case measure => have := HGP.out; omega
                        case rel => exact ⟨_, k :: ls, rfl, HP, HA6, HR6⟩
                      · rw [if_neg hk0] at hp
                        obtain rfl := Option.some.inj hp
                        have b1 : decide (k ≥ 0) = false := decide_eq_false hk0
                        have b2 : (0 ≤ k) = False := eq_false hk0
                        clear hk0 hp hlL hCL
                        go_wp2
                        go_ret
                        exact ⟨_, rfl, HRR.out, HA.out.bel⟩
            · have b1 : decide ((q : Int) < (l.length : Int)) = false := decide_eq_false (by omega)
              have b2 : ((q : Int) < (l.length : Int)) = False := eq_false (by omega)
              have hs := HR.out
              rw [List.drop_eq_nil_of_le (by omega)] at hs
              obtain rfl := Option.some.inj hs
              clear hs hj hlt HR
              go_wp2
              go_roundg m
              case measure => have := HGK.out; omega
              case rel => exact ⟨t, b, ⟨HY.out⟩, HA, HQ⟩

end Go.Proofs.Ytpkigkmkolbiiaa.P
end
