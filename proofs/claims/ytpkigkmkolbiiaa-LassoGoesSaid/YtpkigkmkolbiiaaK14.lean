-- PACKED by pack.py of this repo: FSccLasso
import Derived.WalkSpells
import Derived.WalkLawsBesides
import Derived.Test.YtpkigkmkolbiiaaK2
import Derived.Test.YtpkigkmkolbiiaaK11
import Derived.Test.YtpkigkmkolbiiaaK13
import Derived.Test.YtpkigkmkolbiiaaK7
section
namespace Go.Proofs.Ytpkigkmkolbiiaa.P
open Go.RowKit Go.Proofs.YtpkigkmkolbiiaaW.PrintWords Go.Proofs.YtpkigkmkolbiiaaW.PrintLast Go.Proofs.YtpkigkmkolbiiaaW.PrintMore Go.Proofs.Ytpkigkmkolbiiaa.G
attribute [local go_sem] max2_int min2_int max_two min_two max_three min_three max_four min_four   -- for this text's walks alone
set_option linter.unusedVariables false
set_option linter.unusedSimpArgs false

/-! ### scc_Lasso: function 16 -/
--IMPORT Derived.WalkSpells
--IMPORT Derived.WalkLawsBesides
--IMPORT FSccWay
def scc_Lasso.inP (part : List Int) (home i : Int) : Bool := rd part i == home
def scc_Lasso.hasB (ms : List Int) (bit i : Int) : Bool := Go.bits .and .i64 (shr .i64 (rd ms i) bit) 1 == 1
def scc_Lasso.bits (nx : List (List Int)) (ms part : List Int) (home : Int) (d : Nat) : Nat → Int → Int → List Int → Int → Option (List Int × Int)
  | 0, _, _, loop, at_ => some (loop, at_)
  | m + 1, bit, met, loop, at_ => if Go.bits .and .i64 (shr .i64 met bit) 1 = 1 then scc_Lasso.bits nx ms part home d m (bit + 1) met loop at_ else
    (Way.way nx (scc_Lasso.inP part home) (scc_Lasso.hasB ms bit) d [at_]).bind fun l =>
      if 1 ≤ l.length ∧ l.length + loop.length ≤ 1000000000 ∧ (∀ i ∈ l.drop 1, 0 ≤ i ∧ i < (ms.length : Int)) then
        scc_Lasso.bits nx ms part home d m (bit + 1) ((l.drop 1).foldl (fun s i => Go.bits .or .i64 s (rd ms i)) met) (loop ++ l.drop 1) (rd (loop ++ l.drop 1) ((loop ++ l.drop 1).length - 1 : Nat)) else none
def scc_Lasso.back (nx : List (List Int)) (part : List Int) (home : Int) (d : Nat) (loop : List Int) : List Int → Option (List Int)
  | [] => some loop
  | k :: r => if 0 ≤ k ∧ k < (nx.length : Int) then (if scc_Lasso.inP part home k = true then (Way.way nx (scc_Lasso.inP part home) (fun i => i == home) d [k]).bind fun l => (if 1 ≤ l.length ∧ l.length + loop.length ≤ 2000000000 then some (loop ++ l.dropLast) else none) else scc_Lasso.back nx part home d loop r) else none
def scc_Lasso.go (k : Nat) (home f : Int) (nx : List (List Int)) (ms : List Int) (many : Int) (part : List Int) : Option (List Int × List Int × Int) :=
  if nx.length ≤ 1000000 ∧ (∀ y ∈ nx, y.length ≤ 1000000) ∧ part.length = nx.length ∧ ms.length = nx.length ∧ (0 ≤ home ∧ home < (nx.length : Int)) ∧ (0 ≤ f ∧ f ≤ 1000000) ∧ (0 ≤ many ∧ many ≤ 62) then
    (Way.way nx (fun _ => true) (fun i => i == home) k ((List.range f.toNat).map Int.ofNat)).bind fun stem =>
    (scc_Lasso.bits nx ms part home k many.toNat 0 (rd ms home) [home] home).bind fun la =>
    if 0 ≤ la.2 ∧ la.2 < (nx.length : Int) then (scc_Lasso.back nx part home k la.1 (rd_L1 nx la.2)).bind fun loop => (if 1 ≤ stem.length then some (stem.dropLast, loop, 0) else none) else none
  else none
def scc_Lasso.f (k : Nat) (l0_0 : List (S45)) (a0_1 : Int) (l0_2 : List (List Int)) (l0_3 : List Int) (a0_4 : Int) : Option (List Int × List Int × Int) :=
  (scc_Fair.f k l0_0 a0_1 l0_2 l0_3 a0_4).bind fun e => if e.2 = 0 then ((scc_Parts.f k l0_0 a0_1 l0_2 l0_3 a0_4).bind fun p => scc_Lasso.go k e.1 a0_1 l0_2 l0_3 a0_4 p.1) else some ([], [], e.2)
theorem scc_Lasso.bits_mono (nx : List (List Int)) (ms part : List Int) (home : Int) (d : Nat) : ∀ m bit met loop at_, LeO (scc_Lasso.bits nx ms part home d m bit met loop at_) (scc_Lasso.bits nx ms part home (d + 1) m bit met loop at_)
  | 0, _, _, _, _ => LeO.refl _
  | m + 1, bit, met, loop, at_ => by
    unfold scc_Lasso.bits
    exact LeO.ite (scc_Lasso.bits_mono nx ms part home d m _ _ _ _) (LeO.bind (Way.way_mono _ _ _ _ _) (fun l => LeO.ite (scc_Lasso.bits_mono nx ms part home d m _ _ _ _) (LeO.none _)))
theorem scc_Lasso.back_mono (nx : List (List Int)) (part : List Int) (home : Int) (d : Nat) (loop : List Int) : ∀ r, LeO (scc_Lasso.back nx part home d loop r) (scc_Lasso.back nx part home (d + 1) loop r)
  | [] => LeO.refl _
  | k :: r => by
    unfold scc_Lasso.back
    exact LeO.ite (LeO.ite (LeO.bind (Way.way_mono _ _ _ _ _) (fun l => LeO.refl _)) (scc_Lasso.back_mono nx part home d loop r)) (LeO.none _)
theorem scc_Lasso.mono : ∀ a0 a1 a2 a3 a4 k, LeO (scc_Lasso.f k a0 a1 a2 a3 a4) (scc_Lasso.f (k + 1) a0 a1 a2 a3 a4) := by
  intro a0 a1 a2 a3 a4 k
  unfold scc_Lasso.f
  refine LeO.bind (scc_Fair.mono _ _ _ _ _ _) (fun e => LeO.ite (LeO.bind (scc_Parts.mono _ _ _ _ _ _) (fun p => ?_)) (LeO.refl _))
  unfold scc_Lasso.go
  exact LeO.ite (LeO.bind (Way.way_mono _ _ _ _ _) (fun _ => LeO.bind (scc_Lasso.bits_mono _ _ _ _ _ _ _ _ _ _) (fun _ => LeO.ite (LeO.bind (scc_Lasso.back_mono _ _ _ _ _ _) (fun _ => LeO.refl _)) (LeO.none _)))) (LeO.none _)
theorem lasso_all.calls (i : Int) (w : World) : Calls Try.prog 23 #[.int .i64 i] w fun e w' => e = .returned (.bool true) ∧ ∃ k, w' = w.drewN k := by
  go_enter Try.func23, Try.ntmps23
  go_wp2
  go_ret
  exact ⟨rfl, 0, rfl⟩
theorem lasso_home.calls (g : Nat) (home i : Int) (w : World) (h : w.cell? ⟨g, 0, none⟩ = some (.int .i64 home)) : Calls Try.prog 24 #[.int .i64 i, .pointer (some ⟨g, 0, none⟩)] w fun e w' => e = .returned (.bool (i == home)) ∧ ∃ k, w' = w.drewN k := by
  go_enter Try.func24, Try.ntmps24
  go_wp2
  go_ret
  exact ⟨rfl, 0, rfl⟩
theorem lasso_home2.calls (g : Nat) (home i : Int) (w : World) (h : w.cell? ⟨g, 0, none⟩ = some (.int .i64 home)) : Calls Try.prog 27 #[.int .i64 i, .pointer (some ⟨g, 0, none⟩)] w fun e w' => e = .returned (.bool (i == home)) ∧ ∃ k, w' = w.drewN k := by
  go_enter Try.func27, Try.ntmps27
  go_wp2
  go_ret
  exact ⟨rfl, 0, rfl⟩
theorem lasso_inside.calls (gp gh n c : Nat) (ad : Addr) (x home i : Int) (w : World) (hp : w.cell? ⟨gp, 0, none⟩ = some (.slice (some ad) n c)) (hh : w.cell? ⟨gh, 0, none⟩ = some (.int .i64 home)) (hx : w.cell? (ad.add i.toNat) = some (.int .i64 x)) (h0 : 0 ≤ i) (h1 : i < n) :
    Calls Try.prog 25 #[.int .i64 i, .pointer (some ⟨gp, 0, none⟩), .pointer (some ⟨gh, 0, none⟩)] w fun e w' => e = .returned (.bool (x == home)) ∧ ∃ k, w' = w.drewN k := by
  have q0 := eq_true h0
  have q1 := eq_true h1
  clear h0 h1
  go_enter Try.func25, Try.ntmps25
  go_wp2
  go_quiet (fail)
  generalize hq : World.drewN w _ = w1
  go_wp2
  go_ret
  exact ⟨rfl, _, hq.symm⟩
theorem lasso_bit.calls (gg gb n c : Nat) (ad : Addr) (x bit i : Int) (w : World) (hp : w.cell? ⟨gg, 3, none⟩ = some (.slice (some ad) n c)) (hh : w.cell? ⟨gb, 0, none⟩ = some (.int .i64 bit)) (hx : w.cell? (ad.add i.toNat) = some (.int .i64 x)) (h0 : 0 ≤ i) (h1 : i < n) (b0 : 0 ≤ bit) (b1 : bit ≤ 64) :
    Calls Try.prog 26 #[.int .i64 i, .pointer (some ⟨gg, 0, none⟩), .pointer (some ⟨gb, 0, none⟩)] w fun e w' => e = .returned (.bool (Go.bits .and .i64 (shr .i64 x bit) 1 == 1)) ∧ ∃ k, w' = w.drewN k := by
  have q0 := eq_true h0
  have q1 := eq_true h1
  obtain ⟨y, hy⟩ : ∃ y, shr .i64 x bit = y := ⟨_, rfl⟩
  have hy2 := shr_small hy (by simpa [IntKind.bits] using b1)
  have q2 := eq_true b0
  have q3 : (bit < 0) = False := eq_false (by omega)
  have q4 : decide (bit < 0) = false := decide_eq_false (by omega)
  rw [hy]
  clear h0 h1 hy
  go_enter Try.func26, Try.ntmps26
  go_wp2
  go_quiet (fail)
  generalize hq : World.drewN w _ = w1
  go_wp2
  go_ret
  exact ⟨rfl, _, hq.symm⟩
theorem lasso_cells5 {w : World} {g : Nat} {v0 v1 v2 v3 v4 : Value} {t : TypeId} (h : w.heap[g]? = some (.cells #[v0, v1, v2, v3, v4] t (0, 0))) :
    w.cell? ⟨g, 0, none⟩ = some v0 ∧ w.cell? ⟨g, 1, none⟩ = some v1 ∧ w.cell? ⟨g, 2, none⟩ = some v2 ∧ w.cell? ⟨g, 3, none⟩ = some v3 ∧ w.cell? ⟨g, 4, none⟩ = some v4 :=
  ⟨(blk_cell h 0).trans rfl, (blk_cell h 1).trans rfl, (blk_cell h 2).trans rfl, (blk_cell h 3).trans rfl, (blk_cell h 4).trans rfl⟩
theorem lasso_put {w0 w w' : World} {g : Nat} {u v : Value} {t : TypeId} (hb : Below w0.heap.size w0 w) (hg : w0.heap.size ≤ g) (h : w.heap[g]? = some (.cells #[u] t (0, 0))) (e : w' = w.setCell ⟨g, 0, none⟩ v) :
    w'.heap[g]? = some (.cells #[v] t (0, 0)) ∧ Below w0.heap.size w0 w' ∧ ∀ g' o, g' ≠ g → w.heap[g']? = some o → w'.heap[g']? = some o := by
  subst e
  exact ⟨(blk_set h 0 v).trans rfl, below_set hb hg, fun g' o hne h' => blk_farO h' hne v⟩
/-- What Lasso has in memory behind its beginning; all of it lies below what it makes later. -/
structure scc_Lasso.Box (w0 w : World) (g1 g2 g4 g6 g8 : Nat) (gc : Array Value) (Ap : Option Addr) (cp : Nat) (part : List Int) (home : Int) : Prop where
  b1 : w.heap[g1]? = some (.cells gc 28 (0, 0))
  b2 : w.heap[g2]? = some (.cells #[.slice none 0 0, .slice none 0 0] 48 (0, 0))
  b4 : w.heap[g4]? = some (.cells #[.int .i64 home] 3 (0, 0))
  b6 : w.heap[g6]? = some (.cells #[.slice Ap part.length cp] 23 (0, 0))
  b8 : w.heap[g8]? = some (.cells gc 59 (0, 0))
  rp : Kd.C (Kd.int .i64) w Ap part.length part
  bel : Below w0.heap.size w0 w
  ge : w0.heap.size ≤ g2
theorem scc_Lasso.Box.below {w0 w w' : World} {g1 g2 g4 g6 g8 : Nat} {gc : Array Value} {Ap : Option Addr} {cp : Nat} {part : List Int} {home : Int} (h : scc_Lasso.Box w0 w g1 g2 g4 g6 g8 gc Ap cp part home) (hb : Below w.heap.size w w') : scc_Lasso.Box w0 w' g1 g2 g4 g6 g8 gc Ap cp part home :=
  ⟨blk_below h.b1 hb, blk_below h.b2 hb, blk_below h.b4 hb, blk_below h.b6 hb, blk_below h.b8 hb, Kd.C_below h.rp hb, below_step h.bel hb, h.ge⟩
theorem lasso_rows {nx : List (List Int)} (h : ∀ y ∈ nx, y.length ≤ 1000000) (i : Int) : (rd_L1 nx i).length ≤ 1000000 := by
  show (nx.getD i.toNat []).length ≤ 1000000
  rw [List.getD_eq_getElem?_getD]
  cases e : nx[i.toNat]? with
  | none => simp
  | some y => exact h y (List.mem_of_getElem? e)
theorem lasso_insideR {g6 g4 cp : Nat} {adp : Addr} {part : List Int} {home i : Int} {w w1 : World} (b6 : w.heap[g6]? = some (.cells #[.slice (some adp) part.length cp] 23 (0, 0))) (b4 : w.heap[g4]? = some (.cells #[.int .i64 home] 3 (0, 0)))
    (rp : Kd.C (Kd.int .i64) w (some adp) part.length part) (hb : Below w.heap.size w w1) (h0 : 0 ≤ i) (h1 : i < (part.length : Int)) :
    Calls Try.prog 25 #[.int .i64 i, .pointer (some ⟨g6, 0, none⟩), .pointer (some ⟨g4, 0, none⟩)] w1 fun e w' => e = .returned (.bool (scc_Lasso.inP part home i)) ∧ ∃ k, w' = w1.drewN k := by
  obtain ⟨ad, e, hx⟩ := Kd.at_int (Kd.C_below rp hb) i h0 h1
  obtain rfl := Option.some.inj e
  exact lasso_inside.calls g6 g4 part.length cp adp (rd part i) home i w1 ((blk_cell (blk_below b6 hb) 0).trans rfl) ((blk_cell (blk_below b4 hb) 0).trans rfl) hx h0 h1
theorem lasso_bitR {g1 g16 c : Nat} {ad : Addr} {v0 v1 v2 v4 : Value} {ms : List Int} {bit i : Int} {w w1 : World} (b1 : w.heap[g1]? = some (.cells #[v0, v1, v2, .slice (some ad) ms.length c, v4] 28 (0, 0))) (b16 : w.heap[g16]? = some (.cells #[.int .i64 bit] 3 (0, 0)))
    (rp : Kd.C (Kd.int .i64) w (some ad) ms.length ms) (hb : Below w.heap.size w w1) (h0 : 0 ≤ i) (h1 : i < (ms.length : Int)) (q0 : 0 ≤ bit) (q1 : bit ≤ 64) :
    Calls Try.prog 26 #[.int .i64 i, .pointer (some ⟨g1, 0, none⟩), .pointer (some ⟨g16, 0, none⟩)] w1 fun e w' => e = .returned (.bool (scc_Lasso.hasB ms bit i)) ∧ ∃ k, w' = w1.drewN k := by
  obtain ⟨ad', e, hx⟩ := Kd.at_int (Kd.C_below rp hb) i h0 h1
  obtain rfl := Option.some.inj e
  exact lasso_bit.calls g1 g16 ms.length c ad (rd ms i) bit i w1 ((blk_cell (blk_below b1 hb) 3).trans rfl) ((blk_cell (blk_below b16 hb) 0).trans rfl) hx h0 h1 q0 q1
set_option maxHeartbeats 8000000 in
set_option maxRecDepth 100000 in
theorem scc_Lasso.calls (k : Nat) (A0_0 : Option Addr) (c0_0 : Nat) (l0_0 : List (S45)) (a0_1 : Int) (A0_2 : Option Addr) (c0_2 : Nat) (l0_2 : List (List Int)) (A0_3 : Option Addr) (c0_3 : Nat) (l0_3 : List Int) (a0_4 : Int) (r1 : List Int) (r2 : List Int) (r3 : Int) (w : World) (hr0_0 : Kd.C k45 w A0_0 l0_0.length l0_0) (hc0_0 : l0_0.length ≤ c0_0) (hr0_2 : Kd.C (Kd.slice 3 (Kd.int .i64)) w A0_2 l0_2.length l0_2) (hc0_2 : l0_2.length ≤ c0_2) (hr0_3 : Kd.C (Kd.int .i64) w A0_3 l0_3.length l0_3) (hc0_3 : l0_3.length ≤ c0_3) (h : scc_Lasso.f k l0_0 a0_1 l0_2 l0_3 a0_4 = some (r1, r2, r3)) :
    Calls Try.prog 16 #[.agg #[.slice A0_0 l0_0.length c0_0, .int .i64 a0_1, .slice A0_2 l0_2.length c0_2, .slice A0_3 l0_3.length c0_3, .int .i64 a0_4]] w fun e w' => ∃ v0_ v1_ : Value, e = .returned (.tuple #[.agg #[v0_, v1_], .int .i64 r3]) ∧ Kd.R (Kd.int .i64) 3 w' w.heap.size (fun k_ => some k_ ≠ (v1_ : Value).ownBlock) v0_ r1 ∧ Kd.R (Kd.int .i64) 3 w' w.heap.size (fun k_ => some k_ ≠ (v0_ : Value).ownBlock) v1_ r2 ∧ Below w.heap.size w w' := by
  have info3 := (by kernel_rfl : (Try.prog.info? 3).map (fun i => (i.zero, i.size, i.bytes)) = some (some (.int .i64 0), 1, 8))
  have hu28 := Try.underlying28
  have HR0 := Aside0.mk hr0_0
  have HC0 := Aside0.mk hc0_0
  have HR2 := Aside0.mk hr0_2
  have HC2 := Aside0.mk hc0_2
  have HR3 := Aside0.mk hr0_3
  have HC3 := Aside0.mk hc0_3
  unfold scc_Lasso.f at h
  obtain ⟨⟨home, er⟩, hF, h⟩ := Option.bind_eq_some_iff.mp h
  have HF := Aside0.mk hF
  clear hr0_0 hc0_0 hr0_2 hc0_2 hr0_3 hc0_3 hF
  by_cases c0 : er = 0
  · subst c0
    simp only [if_true] at h
    obtain ⟨⟨part, z⟩, hP, h⟩ := Option.bind_eq_some_iff.mp h
    unfold scc_Lasso.go at h
    obtain ⟨⟨hn, hy, hp, hm, hh, hf, hmy⟩, h⟩ := iN h
    obtain ⟨stem, hS, h⟩ := Option.bind_eq_some_iff.mp h
    obtain ⟨⟨loop1, at1⟩, hB, h⟩ := Option.bind_eq_some_iff.mp h
    obtain ⟨ha, h⟩ := iN h
    obtain ⟨loop2, hK, h⟩ := Option.bind_eq_some_iff.mp h
    obtain ⟨hst, h⟩ := iN h
    obtain ⟨rfl, rfl, rfl⟩ : stem.dropLast = r1 ∧ loop2 = r2 ∧ 0 = r3 := by injection h with h; injection h with h1 h2; injection h2 with h2 h3; exact ⟨h1, h2, h3⟩
    clear h
    have HP := Aside0.mk hP
    have HN := Aside0.mk hn
    have HY := Aside0.mk hy
    have HPL := Aside0.mk hp
    have HM := Aside0.mk hm
    have HH := Aside0.mk hh
    have HFI := Aside0.mk hf
    have HMY := Aside0.mk hmy
    have HS := Aside0.mk hS
    have HB := Aside0.mk hB
    have HA := Aside0.mk ha
    have HK := Aside0.mk hK
    have HST := Aside0.mk hst
    clear hP hn hy hp hm hh hf hmy hS hB ha hK hst
    go_enter Try.func16, Try.ntmps16
    go_upto_region 6 with (first | ((with_reducible refine gD 1 rfl ?_); go_must (refine boxQ 1 #[.slice A0_0 l0_0.length c0_0, .int .i64 a0_1, .slice A0_2 l0_2.length c0_2, .slice A0_3 l0_3.length c0_3, .int .i64 a0_4] 28 ?_; intro g1 hg w1 hbox hb; have K1 := Aside0.mk hbox; have B1 := Aside0.mk hb; clear hbox hb hg)) | ((with_reducible refine gD 2 rfl ?_); go_must (refine boxQ 2 #[.slice none 0 0, .slice none 0 0] 48 ?_; intro g2 hg w2 hbox hb; have G2 : Aside0 (w.heap.size ≤ g2) := ⟨by rw [hg]; exact below_size B1.out⟩; have N12 := nQ hg K1.out; have K2 := Aside0.mk hbox; have K1 := Aside0.mk (blk_below K1.out hb); have B2 := Aside0.mk (below_step B1.out hb); clear hbox hb hg; obtain ⟨z0, z1, z2, z3, z4⟩ := lasso_cells5 K1.out)) | (go_at_call 15; go_must (refine (scc_Fair.calls k _ _ l0_0 a0_1 _ _ l0_2 _ _ l0_3 a0_4 home 0 _ (Kd.C_below HR0.out B2.out) HC0.out (Kd.C_below HR2.out B2.out) HC2.out (Kd.C_below HR3.out B2.out) HC3.out HF.out).mono ?_; rintro e w3 ⟨rfl, hb⟩; have B3 := Aside0.mk (below_step B2.out hb); have K1 := Aside0.mk (blk_below K1.out hb); have K2 := Aside0.mk (blk_below K2.out hb); clear hb; clear z0 z1 z2 z3 z4; obtain ⟨z0, z1, z2, z3, z4⟩ := lasso_cells5 K1.out)) | ((with_reducible refine gD 4 rfl ?_); go_must (refine boxQ 4 #[.int .i64 0] 3 ?_; intro g4 hg w4 hbox hb; have G4 : Aside0 (w.heap.size ≤ g4) := ⟨by rw [hg]; exact below_size B3.out⟩; have N14 := nQ hg K1.out; have N24 := nQ hg K2.out; have K4 := Aside0.mk hbox; have K1 := Aside0.mk (blk_below K1.out hb); have K2 := Aside0.mk (blk_below K2.out hb); have B4 := Aside0.mk (below_step B3.out hb); clear hbox hb hg; obtain ⟨c4, f4⟩ := cz1 K4.out; clear z0 z1 z2 z3 z4; obtain ⟨z0, z1, z2, z3, z4⟩ := lasso_cells5 K1.out)) | ((with_reducible refine gS 3 4 rfl ?_); go_must (refine storeQ 3 4 (.tmp 26) (w4.setCell ⟨g4, 0, none⟩ (.int .i64 home)) ?_; clear c4 f4; intro w5 hw; obtain ⟨k4, b5, hx⟩ := lasso_put B4.out G4.out K4.out hw; have K4 := Aside0.mk k4; have B5 := Aside0.mk b5; have K1 := Aside0.mk (hx _ _ N14.out K1.out); have K2 := Aside0.mk (hx _ _ N24.out K2.out); clear k4 b5 hx hw; clear z0 z1 z2 z3 z4; obtain ⟨z0, z1, z2, z3, z4⟩ := lasso_cells5 K1.out)) | (go_at_call 13; go_must (refine (scc_Parts.calls k _ _ l0_0 a0_1 _ _ l0_2 _ _ l0_3 a0_4 part z _ (Kd.C_below HR0.out B5.out) HC0.out (Kd.C_below HR2.out B5.out) HC2.out (Kd.C_below HR3.out B5.out) HC3.out HP.out).mono ?_; rintro e w6 ⟨vp, rfl, hr, hb⟩; obtain ⟨Ap, cp, rfl, hlp⟩ := Kd.Q_slice (Kd.Q_of_R hr); clear hlp; have B6 := Aside0.mk (below_step B5.out hb); have RP := Aside0.mk (Kd.R_lower hr (below_size B5.out)); have K1 := Aside0.mk (blk_below K1.out hb); have K2 := Aside0.mk (blk_below K2.out hb); have K4 := Aside0.mk (blk_below K4.out hb); clear hb hr; clear z0 z1 z2 z3 z4; obtain ⟨z0, z1, z2, z3, z4⟩ := lasso_cells5 K1.out)) | ((with_reducible refine gD 6 rfl ?_); go_must (refine boxQ 6 #[.slice none 0 0] 23 ?_; intro g6 hg w7 hbox hb; have G6 : Aside0 (w.heap.size ≤ g6) := ⟨by rw [hg]; exact below_size B6.out⟩; have N16 := nQ hg K1.out; have N26 := nQ hg K2.out; have N46 := nQ hg K4.out; have K6 := Aside0.mk hbox; have K1 := Aside0.mk (blk_below K1.out hb); have K2 := Aside0.mk (blk_below K2.out hb); have K4 := Aside0.mk (blk_below K4.out hb); have B7 := Aside0.mk (below_step B6.out hb); have RP := Aside0.mk (Kd.R_below RP.out hb); clear hbox hb hg; obtain ⟨c6, f6⟩ := cz1 K6.out; clear z0 z1 z2 z3 z4; obtain ⟨z0, z1, z2, z3, z4⟩ := lasso_cells5 K1.out)) | ((with_reducible refine gS 23 6 rfl ?_); go_must (refine storeQ 23 6 (.tmp 35) (w7.setCell ⟨g6, 0, none⟩ (.slice Ap part.length cp)) ?_; clear c6 f6; intro w8 hw; obtain ⟨k6, b8, hx⟩ := lasso_put B7.out G6.out K6.out hw; have RP := Aside0.mk (show Kd.R (Kd.int .i64) 3 w8 w.heap.size (fun _ => True) (.slice Ap part.length cp) part by rw [hw]; exact Kd.R_set RP.out K6.out (by decide) 0 _); have K6 := Aside0.mk k6; have B8 := Aside0.mk b8; have K1 := Aside0.mk (hx _ _ N16.out K1.out); have K2 := Aside0.mk (hx _ _ N26.out K2.out); have K4 := Aside0.mk (hx _ _ N46.out K4.out); clear k6 b8 hx hw; clear z0 z1 z2 z3 z4; obtain ⟨z0, z1, z2, z3, z4⟩ := lasso_cells5 K1.out)))
    have BX := Aside0.mk (show scc_Lasso.Box w (w8.alloc (.cells #[.slice A0_0 l0_0.length c0_0, .int .i64 a0_1, .slice A0_2 l0_2.length c0_2, .slice A0_3 l0_3.length c0_3, .int .i64 a0_4] 59)) g1 g2 g4 g6 w8.heap.size #[.slice A0_0 l0_0.length c0_0, .int .i64 a0_1, .slice A0_2 l0_2.length c0_2, .slice A0_3 l0_3.length c0_3, .int .i64 a0_4] Ap cp part home from ⟨blk_alloc K1.out _, blk_alloc K2.out _, blk_alloc K4.out _, blk_alloc K6.out _, blk_new _ _, Kd.C_below (Kd.Q_reads' (Kd.Q_of_R RP.out)).2.2 (below_alloc (Below.refl _ _) _), below_alloc B8.out _, G2.out⟩)
    generalize w8.heap.size = g8 at BX ⊢
    generalize w8.alloc (.cells #[.slice A0_0 l0_0.length c0_0, .int .i64 a0_1, .slice A0_2 l0_2.length c0_2, .slice A0_3 l0_3.length c0_3, .int .i64 a0_4] 59) = wN at BX ⊢
    clear K1 K2 K4 K6 RP z0 z1 z2 z3 z4 B1 B2 B3 B4 B5 B6 B7 B8 G2 G4 G6 N12 N14 N24 N16 N26 N46 HP HF HC0 HC2 HC3
    obtain ⟨z0, z1, z2, z3, z4⟩ := lasso_cells5 BX.out.b1
    go_wp2
    clear z0 z1 z2 z3 z4
    go_loopg [9, 41] a0_1.toNat (fun kq v9 v41 wr => ∃ (j : Nat), v41 = .int .i64 j ∧ j + kq = a0_1.toNat ∧ Aside0 (Below wN.heap.size wN wr) ∧ Aside0 (Kd.Q (Kd.int .i64) 3 wr wN.heap.size (fun _ => True) v9 ((List.range j).map Int.ofNat)))
    case atStart => exact ⟨0, rfl, by omega, ⟨Below.refl _ _⟩, ⟨Kd.Q_nil _ _ _ _ _⟩⟩
    case round =>
      obtain ⟨j, rfl, hj, HB1, HQ⟩ := hrel
      by_cases hlt : j < a0_1.toNat
      · have b1 : decide ((j : Int) < a0_1) = true := decide_eq_true (by omega)
        have b2 : ((j : Int) < a0_1) = True := eq_true (by omega)
        have b3 : wrap64 ((j : Int) + 1) = ((j + 1 : Nat) : Int) := by have := HFI.out; unfold wrap64; omega
        have HJ := Aside0.mk hj
        have HT := Aside0.mk hlt
        clear hj hlt
        go_wp2_with (at_builtin; go_must (refine Kd.Q_append (Kd.int .i64) (w0 := wN) wN.heap.size rfl (.tmp 44) (.tmp 46) 23 3 (.int .i64 0) 8 rfl Try.underlying23 info3 rfl (by decide) (by omega) _ ((List.range j).map Int.ofNat) (j : Int) [.int .i64 j] (fun _ => True) (fun _ => False) rfl rfl rfl (fun _ hk => hk.elim) (fun _ _ => trivial) HQ.out HB1.out HB1.out.size (by have := HFI.out; have := HT.out; simp only [List.length_map, List.length_range]; omega) ?_; intro v5 w5 hq hb hg hn; have HQ5 := Aside0.mk hq; have HB5 := Aside0.mk hb; clear hq hb hg hn))
        go_roundg (a0_1.toNat - (j + 1))
        case measure => have := HJ.out; have := HT.out; omega
        case rel => exact ⟨j + 1, by rw [b3], by have := HT.out; omega, HB5, ⟨by rw [List.range_succ, List.map_append]; exact HQ5.out⟩⟩
      · have b1 : decide ((j : Int) < a0_1) = false := decide_eq_false (by have := HFI.out; omega)
        have b2 : ((j : Int) < a0_1) = False := eq_false (by have := HFI.out; omega)
        have HJE : Aside0 (j = a0_1.toNat) := ⟨by omega⟩
        obtain ⟨fr, hfr⟩ : ∃ fr, fr = (List.range j).map Int.ofNat := ⟨_, rfl⟩
        have hfl : fr.length = j := by rw [hfr]; simp
        have HW1 : Aside0 (Way.way l0_2 (fun _ => true) (fun i => i == home) k fr = some stem) := ⟨by rw [hfr, HJE.out]; exact HS.out⟩
        rw [← hfr] at HQ
        have HFL : Aside0 (fr.length ≤ 1000000) := ⟨by have := HFI.out; have := HJE.out; omega⟩
        clear hfr hfl
        obtain ⟨AF, cF, rfl, hlF, hCF⟩ := Kd.Q_reads HQ.out
        have HCF := Aside0.mk hCF
        have HBX := Aside0.mk (scc_Lasso.Box.below BX.out HB1.out)
        have hcall : ∀ (fi : FuncId), fi = 23 ∨ fi = 24 → ∀ (args : Array Value) (w : World), (callFunc fi args).run Try.prog w = .ok (.enter fi args) w := by
          rintro fi (rfl | rfl) args w
          · kernel_rfl
          · kernel_rfl
        clear hj hlt hlF hCF
        obtain ⟨z0, z1, z2, z3, z4⟩ := lasso_cells5 HBX.out.b8
        go_upto_region 13 with (go_at_call 22; go_must (refine (scc_way.calls (fun _ => true) (fun i => i == home) 23 24 #[] #[.pointer (some ⟨g4, 0, none⟩)] k A0_0 c0_0 l0_0 a0_1 A0_2 c0_2 l0_2 A0_3 c0_3 l0_3 a0_4 AF cF fr stem wr (Kd.C_below HR2.out HBX.out.bel) HN.out (lasso_rows HY.out) HCF.out HFL.out (fun w1 i _ _ _ => lasso_all.calls i w1) (fun w1 i hb _ _ => lasso_home.calls g4 home i w1 ((blk_cell (blk_below HBX.out.b4 hb) 0).trans rfl)) (hcall _ (.inl rfl)) (hcall _ (.inr rfl)) HW1.out).mono ?_; rintro e w9 ⟨vs, rfl, hr, hb⟩; obtain ⟨AV, cV, rfl, hlV⟩ := Kd.Q_slice (Kd.Q_of_R hr); clear hlV; have HBX9 := Aside0.mk (scc_Lasso.Box.below HBX.out hb); have RS := Aside0.mk (Kd.R_lower hr (Nat.le_trans (below_size BX.out.bel) (below_size HB1.out))); clear hr hb z0 z1 z2 z3 z4; obtain ⟨z0, z1, z2, z3, z4⟩ := lasso_cells5 HBX9.out.b1))
        clear BX HB1 HQ HCF b1 b2 HFL HW1
        obtain ⟨adp, rfl, _⟩ := Kd.at_int HBX9.out.rp home HH.out.1 (by have := HH.out.2; have := HPL.out; omega)
        obtain ⟨adm, rfl, _⟩ := Kd.at_int HR3.out home HH.out.1 (by have := HH.out.2; have := HM.out; omega)
        have hcall3 : ∀ (fi : FuncId), fi = 25 ∨ fi = 26 ∨ fi = 27 → ∀ (args : Array Value) (w : World), (callFunc fi args).run Try.prog w = .ok (.enter fi args) w := by
          rintro fi (rfl | rfl | rfl) args w
          · kernel_rfl
          · kernel_rfl
          · kernel_rfl
        have h3 := hcall3 _ (.inl rfl)
        have hh0 := eq_true HH.out.1
        have hh1 : (home < (l0_3.length : Int)) = True := eq_true (by have := HH.out.2; have := HM.out; omega)
        have c4 := (cz1 HBX9.out.b4).1
        go_upto_region 17 with (((with_reducible refine gD 55 rfl ?_); go_must (refine Kd.R_lit (Kd.int .i64) (w0 := w9) w9.heap.size 3 ?hg (N := 55) ?hd (xs := [home]) (inner := [.int .i64 home]) (ok := fun _ => True) (okp := fun _ => True) ?hr ?hp (fun _ hk => hk) trivial (Below.refl _ _) (Nat.le_refl _) (by simp) ?_; (case hd => rfl); (case hg => rfl); (case hr => first | (go_simp; done) | (go_simp; rfl)); (case hp => exact Reps.one (show Kd.M (Kd.int .i64) _ _ _ home [.int .i64 home] from rfl) (Reps.none _ _)); intro vl w10 ho hb hg hn; have QL := Aside0.mk ho; have LB := Aside0.mk hb; have HBX10 := Aside0.mk (scc_Lasso.Box.below HBX9.out hb); clear ho hb hg hn c4 z0 z1 z2 z3 z4; obtain ⟨z0, z1, z2, z3, z4⟩ := lasso_cells5 HBX10.out.b1; have c4 := (cz1 HBX10.out.b4).1; obtain ⟨ad_, e_, hxm⟩ := Kd.at_int (Kd.C_below HR3.out HBX10.out.bel) home HH.out.1 (by have := HH.out.2; have := HM.out; omega); cases Option.some.inj e_)))
        go_wp2
        clear z0 z1 z2 z3 z4 c4 hxm
        go_loopg [13, 14, 15, 64] a0_4.toNat (fun kq v13 v14 v15 v64 wr => ∃ (bit : Nat) (met : Int) (lp : List Int) (at_ : Int), v14 = .int .i64 met ∧ v15 = .int .i64 at_ ∧ v64 = .int .i64 bit ∧ bit + kq = a0_4.toNat ∧ 1 ≤ lp.length ∧ Aside0 (scc_Lasso.bits l0_2 l0_3 part home k kq bit met lp at_ = some (loop1, at1)) ∧ Aside0 (Below w9.heap.size w9 wr) ∧ Aside0 (Kd.R (Kd.int .i64) 3 wr w9.heap.size (fun _ => True) v13 lp))
        case atStart => exact ⟨0, rd l0_3 home, [home], home, rfl, rfl, rfl, by omega, by simp, HB, LB, QL⟩
        case round =>
          clear HB LB QL HBX10
          obtain ⟨bit, met, lp, at_, rfl, rfl, rfl, hj, hl1, HBI, HB1, HQ⟩ := hrel
          have HBXr := Aside0.mk (scc_Lasso.Box.below HBX9.out HB1.out)
          by_cases hlt : bit < a0_4.toNat
          · obtain ⟨m, hgk⟩ : ∃ m, gk = m + 1 := ⟨gk - 1, by omega⟩
            have hb := HBI.out
            rw [hgk] at hb
            simp only [scc_Lasso.bits] at hb
            have HGK := Aside0.mk hgk
            have HJ := Aside0.mk hj
            have HT := Aside0.mk hlt
            have HL1 := Aside0.mk hl1
            have b1 : decide ((bit : Int) < a0_4) = true := decide_eq_true (by omega)
            have b2 : ((bit : Int) < a0_4) = True := eq_true (by omega)
            have b3 : wrap64 ((bit : Int) + 1) = ((bit + 1 : Nat) : Int) := by have := HMY.out; unfold wrap64; omega
            obtain ⟨y, hy⟩ : ∃ y, shr .i64 met (bit : Int) = y := ⟨_, rfl⟩
            have hy2 := shr_small hy (by have := HMY.out; simp only [IntKind.bits]; omega)
            rw [Int.toNat_natCast] at hy2
            rw [hy] at hb
            have hmin : min bit 64 = bit := Nat.min_eq_left (by have := HMY.out; omega)
            have q3 : ((bit : Int) < 0) = False := eq_false (by omega)
            clear hgk hj hlt hl1 HBI hy
            by_cases hbt : Go.bits .and .i64 y 1 = 1
            · rw [if_pos hbt] at hb
              have HBN := Aside0.mk hb
              have hbt1 : (Go.bits .and .i64 y 1 == 1) = true := by rw [hbt]; rfl
              clear hb
              go_wp2_with (first | ((with_reducible refine gD 16 rfl ?_); go_must (refine boxQ 16 #[.int .i64 0] 3 ?_; intro g16 hg w11 hbox hb; have hb11 := hb; have hg16 := Nat.le_of_eq hg.symm; obtain ⟨c16, f16⟩ := cz1 hbox; have K16 := Aside0.mk hbox; clear hbox hb hg)) | ((with_reducible refine gS 3 16 rfl ?_); go_must (refine storeQ 3 16 (.tmp 66) (w11.setCell ⟨g16, 0, none⟩ (.int .i64 bit)) ?_; clear c16 f16; intro w12 hw; obtain ⟨k16, b12, hx⟩ := lasso_put hb11 hg16 K16.out hw; have K16 := Aside0.mk k16; have B12 := Aside0.mk b12; have HBX12 := Aside0.mk (scc_Lasso.Box.below HBXr.out b12); have HQ12 := Aside0.mk (Kd.R_below HQ.out b12); clear k16 b12 hx hw hb11 hg16; have c16 := (cz1 K16.out).1; have f16 := (cz1 K16.out).2; have zz := lasso_cells5 HBX12.out.b8; obtain ⟨z0, z1, z2, z3, z4⟩ := zz)))
              go_roundg m
              case measure => have := HGK.out; omega
              case rel => exact ⟨bit + 1, met, lp, at_, rfl, rfl, by first | (rw [b3]; done) | rfl, by have := HJ.out; have := HGK.out; omega, HL1.out, ⟨HBN.out⟩, ⟨below_step HB1.out B12.out⟩, HQ12⟩
            · rw [if_neg hbt] at hb
              have hbt1 : (Go.bits .and .i64 y 1 == 1) = false := by simpa using hbt
              obtain ⟨l, hW, hb⟩ := Option.bind_eq_some_iff.mp hb
              obtain ⟨hlc, hb⟩ := iN hb
              have HW1 := Aside0.mk hW
              have HLC := Aside0.mk hlc
              have HBN := Aside0.mk hb
              have h4 := hcall3 _ (.inr (.inl rfl))
              clear hW hb hlc
              go_upto_region 22 with (first | ((with_reducible refine gD 16 rfl ?_); go_must (refine boxQ 16 #[.int .i64 0] 3 ?_; intro g16 hg w11 hbox hb; have hb11 := hb; have hg16 := Nat.le_of_eq hg.symm; obtain ⟨c16, f16⟩ := cz1 hbox; have K16 := Aside0.mk hbox; clear hbox hb hg)) | ((with_reducible refine gS 3 16 rfl ?_); go_must (refine storeQ 3 16 (.tmp 66) (w11.setCell ⟨g16, 0, none⟩ (.int .i64 bit)) ?_; clear c16 f16; intro w12 hw; obtain ⟨k16, b12, hx⟩ := lasso_put hb11 hg16 K16.out hw; have K16 := Aside0.mk k16; have B12 := Aside0.mk b12; have HBX12 := Aside0.mk (scc_Lasso.Box.below HBXr.out b12); have HQ12 := Aside0.mk (Kd.R_below HQ.out b12); clear k16 b12 hx hw hb11 hg16; have c16 := (cz1 K16.out).1; have f16 := (cz1 K16.out).2; have zz := lasso_cells5 HBX12.out.b8; obtain ⟨z0, z1, z2, z3, z4⟩ := zz)) | ((with_reducible refine gD 74 rfl ?_); go_must (refine Kd.R_lit (Kd.int .i64) (w0 := w12) w12.heap.size 3 ?hg (N := 74) ?hd (xs := [at_]) (inner := [.int .i64 at_]) (ok := fun _ => True) (okp := fun _ => True) ?hr ?hp (fun _ hk => hk) trivial (Below.refl _ _) (Nat.le_refl _) (by simp) ?_; (case hd => rfl); (case hg => rfl); (case hr => first | (go_simp; done) | (go_simp; rfl)); (case hp => exact Reps.one (show Kd.M (Kd.int .i64) _ _ _ at_ [.int .i64 at_] from rfl) (Reps.none _ _)); intro vt w13 ho hb hg hn; obtain ⟨AT, cT, rfl, hlT, hCT⟩ := Kd.Q_reads (Kd.Q_of_R ho); have HCT := Aside0.mk hCT; have B13 := Aside0.mk hb; have HBX13 := Aside0.mk (scc_Lasso.Box.below HBX12.out hb); have K13 := Aside0.mk (blk_below K16.out hb); clear ho hb hg hn hlT hCT)) | (go_at_call 22; go_must (refine (scc_way.calls (scc_Lasso.inP part home) (scc_Lasso.hasB l0_3 bit) 25 26 #[.pointer (some ⟨g6, 0, none⟩), .pointer (some ⟨g4, 0, none⟩)] #[.pointer (some ⟨g1, 0, none⟩), .pointer (some ⟨g16, 0, none⟩)] k A0_0 c0_0 l0_0 a0_1 A0_2 c0_2 l0_2 (some adm) c0_3 l0_3 a0_4 AT cT [at_] l w13 (Kd.C_below HR2.out HBX13.out.bel) HN.out (lasso_rows HY.out) HCT.out (by simp) (fun w1 i hb h0 h1 => lasso_insideR HBX13.out.b6 HBX13.out.b4 HBX13.out.rp hb h0 (by have := HPL.out; omega)) (fun w1 i hb h0 h1 => lasso_bitR HBX13.out.b1 K13.out (Kd.C_below HR3.out HBX13.out.bel) hb h0 (by have := HM.out; omega) (by omega) (by have := HMY.out; have := HT.out; omega)) h3 h4 HW1.out).mono ?_; rintro e w14 ⟨vs2, rfl, hr, hb⟩; have HBX14 := Aside0.mk (scc_Lasso.Box.below HBX13.out hb); have HQ14 := Aside0.mk (Kd.R_below (Kd.R_below HQ12.out B13.out) hb); have B14 := Aside0.mk (below_step (below_step (below_step HB1.out B12.out) B13.out) hb); have RW := Aside0.mk hr; clear hr hb)))
              have hll := HLC.out.2.1
              have hlb := HLC.out.2.2
              have hbn := HBN.out
              obtain ⟨A, c, hv, hcl⟩ := Kd.Q_slice (Kd.Q_of_R RW.out)
              have hq2 := Kd.Q_of_R RW.out
              obtain ⟨n, hn⟩ : ∃ n : Nat, n = l.length := ⟨_, rfl⟩
              have hl1 : 1 ≤ n := by rw [hn]; exact HLC.out.1
              rw [← hn] at hv hcl hll
              subst hv
              have hq2 := Kd.Q_drop (k := 1) hq2 (by omega)
              rw [show (Kd.int .i64).sz = 1 from rfl] at hq2
              have hcut : ∀ W : World, (Instr.slice 23 (.slice A n c) (some (.int .i64 1)) none none).run Try.prog W = .ok (.slice (if c = 1 then A else A.map (·.add (1 * 1))) (n - 1) (c - 1)) W := by
                obtain ⟨i0, hi0, _, hsz, _⟩ := info_parts info3
                intro W
                rw [cut_from 23 3 .i64 Try.underlying23 hi0 1 hsz A n c 1 (by omega) (by omega) W, show (1 : Int).toNat = 1 from rfl]
              obtain ⟨A2, c2, hv2, hc2⟩ := Kd.Q_slice hq2
              rw [hv2] at hcut hq2
              have hl2n : (l.drop 1).length ≤ n := by rw [List.length_drop]; omega
              generalize l.drop 1 = l2 at hcut hq2 hlb hbn hl2n hc2
              have HC2 := Aside0.mk (Kd.Q_reads' hq2).2.2
              have HL2 := Aside0.mk hlb
              have HBN := Aside0.mk hbn
              have HLL : Aside0 (l2.length + lp.length ≤ 1000000000) := ⟨by omega⟩
              clear hll hlb hbn hcl hv2 hq2 hl1 hl2n hc2 RW HLC HW1 hn
              go_wp2
              clear z0 z1 z2 z3 z4 c16 f16
              go_loopg [14, 81] l2.length (fun kq v14 v81 wr => ∃ (q : Nat), v14 = .int .i64 ((l2.take q).foldl (fun s i => Go.bits .or .i64 s (rd l0_3 i)) met) ∧ v81 = .int .i64 q ∧ q + kq = l2.length ∧ Aside0 (Below w14.heap.size w14 wr))
              case atStart => exact ⟨0, rfl, rfl, by omega, ⟨Below.refl _ _⟩⟩
              case round =>
                obtain ⟨q, rfl, rfl, hjq, HBq⟩ := hrel
                have HBXq := Aside0.mk (scc_Lasso.Box.below HBX14.out HBq.out)
                by_cases hlt : q < l2.length
                · obtain ⟨x, hx0⟩ : ∃ x, x = l2[q] := ⟨_, rfl⟩
                  have hrd : rd l2 (q : Int) = x := by
                    unfold rd
                    rw [Int.toNat_natCast, List.getD_eq_getElem?_getD, List.getElem?_eq_getElem hlt, hx0]
                    rfl
                  obtain ⟨hx1, hx2⟩ := HL2.out x (by rw [hx0]; exact List.getElem_mem hlt)
                  have hfold : (l2.take (q + 1)).foldl (fun s i => Go.bits .or .i64 s (rd l0_3 i)) met = Go.bits .or .i64 ((l2.take q).foldl (fun s i => Go.bits .or .i64 s (rd l0_3 i)) met) (rd l0_3 x) := by
                    rw [List.take_add_one, List.getElem?_eq_getElem hlt, ← hx0, Option.toList_some, List.foldl_append]
                    rfl
                  obtain ⟨adq, e1, hx⟩ := Kd.at_int (Kd.C_below HC2.out HBq.out) (q : Int) (by omega) (by omega)
                  rw [hrd, Int.toNat_natCast] at hx
                  subst e1
                  obtain ⟨ad_, e_, hxm⟩ := Kd.at_int (Kd.C_below HR3.out HBXq.out.bel) x hx1 hx2
                  obtain rfl := Option.some.inj e_
                  obtain ⟨z0, z1, z2, z3, z4⟩ := lasso_cells5 HBXq.out.b1
                  have x1 := eq_true hx1
                  have x2 := eq_true hx2
                  generalize (l2.take q).foldl (fun s i => Go.bits .or .i64 s (rd l0_3 i)) met = acc at hfold ⊢
                  have HFO := Aside0.mk hfold
                  have b4 : decide ((q : Int) < (l2.length : Int)) = true := decide_eq_true (by omega)
                  have b5 : ((q : Int) < (l2.length : Int)) = True := eq_true (by omega)
                  have b6 : wrap64 ((q : Int) + 1) = ((q + 1 : Nat) : Int) := by have := HLL.out; unfold wrap64; omega
                  have HJQ := Aside0.mk hjq
                  have HTQ := Aside0.mk hlt
                  clear hx0 hrd hx1 hx2 hfold e_ hjq hlt
                  go_wp2
                  go_roundg (l2.length - (q + 1))
                  case measure => have := HJQ.out; have := HTQ.out; omega
                  case rel => exact ⟨q + 1, by rw [HFO.out], by first | (rw [b6]; done) | rfl, by have := HTQ.out; omega, HBq⟩
                · have b4 : decide ((q : Int) < (l2.length : Int)) = false := decide_eq_false (by omega)
                  have b5 : ((q : Int) < (l2.length : Int)) = False := eq_false (by omega)
                  have hfl : (l2.take q).foldl (fun s i => Go.bits .or .i64 s (rd l0_3 i)) met = l2.foldl (fun s i => Go.bits .or .i64 s (rd l0_3 i)) met := by rw [List.take_of_length_le (by omega)]
                  generalize (l2.take q).foldl (fun s i => Go.bits .or .i64 s (rd l0_3 i)) met = acc at hfl ⊢
                  have HFO := Aside0.mk hfl
                  have HQq := Aside0.mk (Kd.R_below HQ14.out HBq.out)
                  have Bq := Aside0.mk (below_step B14.out HBq.out)
                  clear hfl hjq hlt
                  go_upto_region 28 with (at_builtin; go_must (refine Kd.R_append_rows (Kd.int .i64) (Rr := (Kd.int .i64).K w) (w0 := w9) w9.heap.size rfl (.tmp 93) (.tmp 95) 23 3 (.int .i64 0) 8 rfl Try.underlying23 info3 rfl (by decide) (by omega) _ lp l2 A2 l2.length c2 (fun _ => True) (fun _ => False) rfl rfl HQq.out (Kd.C_below HC2.out HBq.out) (fun _ _ h => h) (fun _ hk => hk.elim) (fun _ _ => trivial) Bq.out Bq.out.size (by have := HLL.out; omega) ?_; intro va w15 hra hba hga hata; have RA := Aside0.mk hra; have B15 := Aside0.mk hba; clear hra hba hga hata))
                  have hbn := HBN.out
                  have hlp : ∃ p, (lp ++ l2).length = p + 1 := ⟨(lp ++ l2).length - 1, by have := HL1.out; simp only [List.length_append]; omega⟩
                  rw [← HFO.out] at hbn
                  generalize lp ++ l2 = lp2 at hbn hlp RA
                  obtain ⟨p, hp⟩ := hlp
                  obtain ⟨AA, cA, hva, hlA, hCA⟩ := Kd.Q_reads (Kd.Q_of_R RA.out)
                  rw [hp] at hva
                  obtain ⟨ada, ea, hxa⟩ := Kd.at_int hCA (p : Int) (by omega) (by omega)
                  rw [Int.toNat_natCast] at hxa
                  rw [hp, Nat.add_sub_cancel] at hbn
                  generalize rd lp2 (p : Int) = at2 at hbn hxa
                  subst ea
                  have HVA := Aside0.mk hva
                  subst hva
                  have HP1 := Aside0.mk hp
                  have HBN2 := Aside0.mk hbn
                  have hw1 : wrap64 (p : Int) = (p : Int) := by have h9 := hCA.2.1; unfold wrap64; omega
                  clear hp hbn hCA hlA HFO
                  go_wp2
                  go_roundg m
                  case measure => have := HGK.out; omega
                  case rel => exact ⟨bit + 1, acc, lp2, at2, rfl, rfl, by first | (rw [b3]; done) | rfl, by have := HJ.out; have := HGK.out; omega, by have := HP1.out; omega, HBN2, B15, RA⟩
          · have b1 : decide ((bit : Int) < a0_4) = false := decide_eq_false (by have := HMY.out; omega)
            have b2 : ((bit : Int) < a0_4) = False := eq_false (by have := HMY.out; omega)
            have hb := HBI.out
            have hgk0 : gk = 0 := by omega
            rw [hgk0] at hb
            simp only [scc_Lasso.bits] at hb
            obtain ⟨e1, e2⟩ : lp = loop1 ∧ at_ = at1 := by injection hb with hb; injection hb with h1 h2; exact ⟨h1, h2⟩
            have hAA := HA.out
            have hk := HK.out
            rw [← e1, ← e2] at hk
            rw [← e2] at hAA
            clear hb hgk0 hj hlt HBI e1 e2
            obtain ⟨ad2, cc2, e2, hcl, ⟨A1, c1, rfl, hl1', hC1⟩, hcell⟩ := Kd.C_get HR2.out ([] : List Int) at_ hAA.1 hAA.2
            have hx2 := hcell 0 _ rfl
            simp only [show (Kd.slice 3 (Kd.int .i64)).sz = 1 from rfl, Nat.mul_one, Nat.add_zero] at hx2
            have hx2 := (HBXr.out.bel.cell (World.block_lt_of_cell? w _ hx2)).trans hx2
            rw [show rd_L1 l0_2 at_ = l0_2.getD at_.toNat [] from rfl] at hk
            have hrl : (l0_2.getD at_.toNat []).length ≤ 1000000 := lasso_rows HY.out at_
            clear hcell hcl
            generalize l0_2.getD at_.toNat ([] : List Int) = l at hx2 hC1 hk hrl hl1'
            subst e2
            have HC1 := Aside0.mk hC1
            have HKK := Aside0.mk hk
            have HRL := Aside0.mk hrl
            have i0 := eq_true hAA.1
            have i1 := eq_true hAA.2
            have HL1 := Aside0.mk hl1
            clear hC1 hk hrl hl1' hAA hl1
            obtain ⟨z0, z1, z2, z3, z4⟩ := lasso_cells5 HBXr.out.b1
            go_wp2
            clear z0 z1 z2 z3 z4 hx2 i0 i1
            go_loopg [13, 110] l.length (fun kq v13 v110 wr => ∃ (q : Nat), v110 = .int .i64 q ∧ q + kq = l.length ∧ Aside0 (scc_Lasso.back l0_2 part home k lp (l.drop q) = some loop2) ∧ Aside0 (Below w9.heap.size w9 wr) ∧ Aside0 (Kd.R (Kd.int .i64) 3 wr w9.heap.size (fun _ => True) v13 lp))
            case atStart => exact ⟨0, rfl, by omega, ⟨by rw [List.drop_zero]; exact HKK.out⟩, HB1, HQ⟩
            case round =>
              have HC0' := HC1
              have HBX0 := HBXr
              clear HKK HBXr
              obtain ⟨q, rfl, hj, HKK, HB2, HQ2⟩ := hrel
              have HBXq := Aside0.mk (scc_Lasso.Box.below HBX9.out HB2.out)
              by_cases hlt : q < l.length
              · have hd : l.drop q = l[q] :: l.drop (q + 1) := List.drop_eq_getElem_cons hlt
                have hk := HKK.out
                rw [hd] at hk
                simp only [scc_Lasso.back] at hk
                obtain ⟨hx12, hk1⟩ := iN hk
                clear hk
                obtain ⟨x, hx0⟩ : ∃ x, x = l[q] := ⟨_, rfl⟩
                have hrd : rd l (q : Int) = x := by
                  unfold rd
                  rw [Int.toNat_natCast, List.getD_eq_getElem?_getD, List.getElem?_eq_getElem hlt, hx0]
                  rfl
                rw [← hx0] at hk1 hx12
                obtain ⟨adq, e1, hx⟩ := Kd.at_int (Kd.C_below HC1.out HBXq.out.bel) (q : Int) (by omega) (by omega)
                rw [hrd, Int.toNat_natCast] at hx
                subst e1
                have b1 : decide ((q : Int) < (l.length : Int)) = true := decide_eq_true (by omega)
                have b2 : ((q : Int) < (l.length : Int)) = True := eq_true (by omega)
                have b3 : wrap64 ((q : Int) + 1) = ((q + 1 : Nat) : Int) := by have := HRL.out; unfold wrap64; omega
                have HJ := Aside0.mk hj
                have HT := Aside0.mk hlt
                have HX := Aside0.mk hx12
                have HK1 := Aside0.mk hk1
                clear hd hx0 hrd hj hlt hx12 hk1 HKK
                go_wp2_with fail
                refine (lasso_insideR HBXq.out.b6 HBXq.out.b4 HBXq.out.rp (Below.refl _ _) HX.out.1 (by have := HX.out.2; have := HPL.out; omega)).mono ?_
                rintro e w10 ⟨rfl, q10, hw10⟩
                have hb10 : Below wr.heap.size wr w10 := by rw [hw10]; exact pw_below_drewN (Below.refl _ _) q10
                have HB3 := Aside0.mk (below_step HB2.out hb10)
                have HQ3 := Aside0.mk (Kd.R_below HQ2.out hb10)
                have HBX3 := Aside0.mk (scc_Lasso.Box.below HBXq.out hb10)
                clear hb10 hw10
                cases hin : scc_Lasso.inP part home x with
                | false =>
                  have hk := HK1.out
                  rw [if_neg (by rw [hin]; decide)] at hk
                  have HK2 := Aside0.mk hk
                  clear hk
                  go_wp2
                  go_roundg (l.length - (q + 1))
                  case measure => have := HJ.out; have := HT.out; omega
                  case rel => exact ⟨q + 1, by first | (rw [b3]; done) | rfl, by have := HT.out; omega, HK2, HB3, HQ3⟩
                | true =>
                  have hk := HK1.out
                  rw [if_pos hin] at hk
                  obtain ⟨l3, hW, hk⟩ := Option.bind_eq_some_iff.mp hk
                  obtain ⟨hlc, hk⟩ := iN hk
                  have hk := Option.some.inj hk
                  have HW1 := Aside0.mk hW
                  have HLC := Aside0.mk hlc
                  have HK2 := Aside0.mk hk
                  have h5 := hcall3 _ (.inr (.inr rfl))
                  obtain ⟨z0, z1, z2, z3, z4⟩ := lasso_cells5 HBX3.out.b8
                  clear hW hlc hk
                  go_upto_region 35 with (first | ((with_reducible refine gD 120 rfl ?_); go_must (refine Kd.R_lit (Kd.int .i64) (w0 := w10) w10.heap.size 3 ?hg (N := 120) ?hd (xs := [x]) (inner := [.int .i64 x]) (ok := fun _ => True) (okp := fun _ => True) ?hr ?hp (fun _ hk => hk) trivial (Below.refl _ _) (Nat.le_refl _) (by simp) ?_; (case hd => rfl); (case hg => rfl); (case hr => first | (go_simp; done) | (go_simp; rfl)); (case hp => exact Reps.one (show Kd.M (Kd.int .i64) _ _ _ x [.int .i64 x] from rfl) (Reps.none _ _)); intro vt w11 ho hb hg hn; obtain ⟨AT, cT, rfl, hlT, hCT⟩ := Kd.Q_reads (Kd.Q_of_R ho); have HCT := Aside0.mk hCT; have B11 := Aside0.mk hb; have HBX11 := Aside0.mk (scc_Lasso.Box.below HBX3.out hb); clear ho hb hg hn hlT hCT)) | (go_at_call 22; go_must (refine (scc_way.calls (scc_Lasso.inP part home) (fun i => i == home) 25 27 #[.pointer (some ⟨g6, 0, none⟩), .pointer (some ⟨g4, 0, none⟩)] #[.pointer (some ⟨g4, 0, none⟩)] k A0_0 c0_0 l0_0 a0_1 (some ad2) c0_2 l0_2 (some adm) c0_3 l0_3 a0_4 AT cT [x] l3 w11 (Kd.C_below HR2.out HBX11.out.bel) HN.out (lasso_rows HY.out) HCT.out (by simp) (fun w1 i hb h0 h1 => lasso_insideR HBX11.out.b6 HBX11.out.b4 HBX11.out.rp hb h0 (by have := HPL.out; omega)) (fun w1 i hb h0 h1 => lasso_home2.calls g4 home i w1 ((blk_cell (blk_below HBX11.out.b4 hb) 0).trans rfl)) h3 h5 HW1.out).mono ?_; rintro e w12 ⟨vs2, rfl, hr, hb⟩; have HBX12 := Aside0.mk (scc_Lasso.Box.below HBX11.out hb); have HQ12 := Aside0.mk (Kd.R_below (Kd.R_below HQ3.out B11.out) hb); have B12 := Aside0.mk (below_step (below_step HB3.out B11.out) hb); have RW := Aside0.mk hr; clear hr hb)))
                  clear z0 z1 z2 z3 z4
                  obtain ⟨A3, c3, hv3, hc3⟩ := Kd.Q_slice (Kd.Q_of_R RW.out)
                  subst hv3
                  obtain ⟨s3, hs3⟩ : ∃ s, l3.length = s + 1 := ⟨l3.length - 1, by have := HLC.out.1; omega⟩
                  have htk3 := Kd.R_take (m := s3) RW.out (by omega)
                  rw [show l3.take s3 = l3.dropLast by rw [List.dropLast_eq_take, hs3, Nat.add_sub_cancel]] at htk3
                  have hC3 := (Kd.Q_reads' (Kd.Q_of_R htk3)).2.2
                  have hC3l := (Kd.Q_reads' (Kd.Q_of_R htk3)).1
                  obtain ⟨ii1, hii1, _, hsz1, _⟩ := info_parts info3
                  have hcut3 := cut_to (P := Try.prog) 23 3 .i64 Try.underlying23 hii1 A3 (s3 + 1) c3 (s3 : Int) (by omega) (by omega) (by omega)
                  rw [Int.toNat_natCast] at hcut3
                  have hw3 : wrap64 (s3 : Int) = (s3 : Int) := by have := HLC.out.2; unfold wrap64; omega
                  have hll : s3 + lp.length ≤ 2000000000 := by have := HLC.out.2; omega
                  have hk := HK2.out
                  rw [hs3]
                  generalize l3.dropLast = l4 at hC3 hC3l hk
                  have HC3 := Aside0.mk (show Kd.C (Kd.int .i64) w12 A3 s3 l4 from hC3l ▸ hC3)
                  have HLL := Aside0.mk hll
                  have HK4 := Aside0.mk hk
                  clear hc3 htk3 hC3 hC3l hii1 hsz1 hll hk HW1 HLC HK2 hs3 RW
                  go_upto_region 37 with (at_builtin; go_must (refine Kd.R_append_rows (Kd.int .i64) (Rr := (Kd.int .i64).K w) (w0 := w9) w9.heap.size rfl (.tmp 124) (.tmp 129) 23 3 (.int .i64 0) 8 rfl Try.underlying23 info3 rfl (by decide) (by omega) _ lp l4 A3 s3 c3 (fun _ => True) (fun _ => False) rfl rfl HQ12.out HC3.out (fun _ _ h => h) (fun _ hk => hk.elim) (fun _ _ => trivial) B12.out B12.out.size (by have := HLL.out; omega) ?_; intro va w13 hra hba hga hata; have HE2 := Aside0.mk (show Kd.R (Kd.int .i64) 3 w13 w9.heap.size (fun _ => True) va loop2 from HK4.out ▸ hra); have HB6 := Aside0.mk hba; clear hra hba hga hata))
                  clear hcut3 hw3
                  have hE := HE2.out
                  obtain ⟨AE, cE, hvE, hlE⟩ := Kd.Q_slice (Kd.Q_of_R hE)
                  subst hvE
                  have hBE := HB6.out
                  have hSE := Kd.R_below RS.out hBE
                  obtain ⟨s, hs⟩ : ∃ s, stem.length = s + 1 := ⟨stem.length - 1, by have := HST.out; omega⟩
                  have hcs : s + 1 ≤ cV := by have := (Kd.Q_reads' (Kd.Q_of_R hSE)).2.1; omega
                  have htk := Kd.R_take (m := s) hSE (by omega)
                  rw [show stem.take s = stem.dropLast by rw [List.dropLast_eq_take, hs, Nat.add_sub_cancel]] at htk
                  have hlt9 : ∀ g, (Value.slice AV s cV).ownBlock = some g → g < w9.heap.size := Kd.Q_lt (Kd.Q_of_R (Kd.R_take (m := s) RS.out (by omega)))
                  obtain ⟨ii0, hii0, _, hsz0, _⟩ := info_parts info3
                  have hcutE := cut_to (P := Try.prog) 23 3 .i64 Try.underlying23 hii0 AV (s + 1) cV (s : Int) (by omega) (by omega) hcs
                  rw [Int.toNat_natCast] at hcutE
                  have hBXE := scc_Lasso.Box.below HBX9.out hBE
                  obtain ⟨⟨c20, f20⟩, c21, f21⟩ := cz2 hBXE.b2
                  have hwS : wrap64 (s : Int) = (s : Int) := by have h9 := (Kd.Q_reads' (Kd.Q_of_R hSE)).2.2.2.1; unfold wrap64; omega
                  have KE := Aside0.mk ((blk_set (blk_set hBXE.b2 0 (.slice AV s cV)) 1 (.slice AE loop2.length cE)).trans rfl)
                  have KT := Aside0.mk (Kd.R_set (Kd.R_set htk hBXE.b2 (by decide) 0 (.slice AV s cV)) (blk_set hBXE.b2 0 _) (by decide) 1 (.slice AE loop2.length cE))
                  have KL := Aside0.mk (Kd.R_set (Kd.R_set hE hBXE.b2 (by decide) 0 (.slice AV s cV)) (blk_set hBXE.b2 0 _) (by decide) 1 (.slice AE loop2.length cE))
                  have KB := Aside0.mk (below_set (j := 1) (v := .slice AE loop2.length cE) (below_set (j := 0) (v := .slice AV s cV) hBXE.bel hBXE.ge) hBXE.ge)
                  have KG := Aside0.mk (Kd.Q_base (Kd.Q_of_R hE))
                  have KH := Aside0.mk hlt9
                  have KN := Aside0.mk (below_size HBX9.out.bel)
                  rw [hs] at *
                  clear hE hBE hSE hcs htk hlt9 hii0 hsz0 hBXE hlE
                  go_wp2
                  have hu48 := Try.underlying48
                  ((try simp only [Exit.inBlock, Exit.then]); refine bodyPost_ret (results_ct rfl _ _ g2 _ _ _ _ rfl KE.out hu48 rfl (by kernel_rfl)) rfl ?_)
                  exact ⟨_, _, rfl, Kd.R_reok rfl KT.out (fun g hg he => by have h1 := KH.out g hg; have h2 := KG.out g he.symm; omega), Kd.R_reok rfl (Kd.R_lower KL.out KN.out) (fun g hg he => by have h1 := KH.out g he.symm; have h2 := KG.out g hg; omega), KB.out⟩
              · have b1 : decide ((q : Int) < (l.length : Int)) = false := decide_eq_false (by omega)
                have b2 : ((q : Int) < (l.length : Int)) = False := eq_false (by omega)
                have hk := HKK.out
                rw [List.drop_eq_nil_of_le (by omega)] at hk
                obtain hk : lp = loop2 := Option.some.inj hk
                have HE := Aside0.mk (show Kd.R (Kd.int .i64) 3 _ w9.heap.size (fun _ => True) _ loop2 from hk ▸ HQ2.out)
                clear hk hj hlt HKK
                have hE := HE.out
                obtain ⟨AE, cE, hvE, hlE⟩ := Kd.Q_slice (Kd.Q_of_R hE)
                subst hvE
                have hBE := HB2.out
                have hSE := Kd.R_below RS.out hBE
                obtain ⟨s, hs⟩ : ∃ s, stem.length = s + 1 := ⟨stem.length - 1, by have := HST.out; omega⟩
                have hcs : s + 1 ≤ cV := by have := (Kd.Q_reads' (Kd.Q_of_R hSE)).2.1; omega
                have htk := Kd.R_take (m := s) hSE (by omega)
                rw [show stem.take s = stem.dropLast by rw [List.dropLast_eq_take, hs, Nat.add_sub_cancel]] at htk
                have hlt9 : ∀ g, (Value.slice AV s cV).ownBlock = some g → g < w9.heap.size := Kd.Q_lt (Kd.Q_of_R (Kd.R_take (m := s) RS.out (by omega)))
                obtain ⟨ii0, hii0, _, hsz0, _⟩ := info_parts info3
                have hcutE := cut_to (P := Try.prog) 23 3 .i64 Try.underlying23 hii0 AV (s + 1) cV (s : Int) (by omega) (by omega) hcs
                rw [Int.toNat_natCast] at hcutE
                have hBXE := scc_Lasso.Box.below HBX9.out hBE
                obtain ⟨⟨c20, f20⟩, c21, f21⟩ := cz2 hBXE.b2
                have hwS : wrap64 (s : Int) = (s : Int) := by have h9 := (Kd.Q_reads' (Kd.Q_of_R hSE)).2.2.2.1; unfold wrap64; omega
                have KE := Aside0.mk ((blk_set (blk_set hBXE.b2 0 (.slice AV s cV)) 1 (.slice AE loop2.length cE)).trans rfl)
                have KT := Aside0.mk (Kd.R_set (Kd.R_set htk hBXE.b2 (by decide) 0 (.slice AV s cV)) (blk_set hBXE.b2 0 _) (by decide) 1 (.slice AE loop2.length cE))
                have KL := Aside0.mk (Kd.R_set (Kd.R_set hE hBXE.b2 (by decide) 0 (.slice AV s cV)) (blk_set hBXE.b2 0 _) (by decide) 1 (.slice AE loop2.length cE))
                have KB := Aside0.mk (below_set (j := 1) (v := .slice AE loop2.length cE) (below_set (j := 0) (v := .slice AV s cV) hBXE.bel hBXE.ge) hBXE.ge)
                have KG := Aside0.mk (Kd.Q_base (Kd.Q_of_R hE))
                have KH := Aside0.mk hlt9
                have KN := Aside0.mk (below_size HBX9.out.bel)
                rw [hs] at *
                clear hE hBE hSE hcs htk hlt9 hii0 hsz0 hBXE hlE
                go_wp2
                have hu48 := Try.underlying48
                ((try simp only [Exit.inBlock, Exit.then]); refine bodyPost_ret (results_ct rfl _ _ g2 _ _ _ _ rfl KE.out hu48 rfl (by kernel_rfl)) rfl ?_)
                exact ⟨_, _, rfl, Kd.R_reok rfl KT.out (fun g hg he => by have h1 := KH.out g hg; have h2 := KG.out g he.symm; omega), Kd.R_reok rfl (Kd.R_lower KL.out KN.out) (fun g hg he => by have h1 := KH.out g he.symm; have h2 := KG.out g hg; omega), KB.out⟩
  · rw [if_neg c0] at h
    obtain ⟨rfl, rfl, rfl⟩ : ([] : List Int) = r1 ∧ ([] : List Int) = r2 ∧ er = r3 := by injection h with h; injection h with h1 h2; injection h2 with h2 h3; exact ⟨h1, h2, h3⟩
    have c0b0 : (er == 0) = false := beq_eq_false_iff_ne.mpr c0
    have c0b1 : (er != 0) = true := bne_iff_ne.mpr c0
    clear h c0
    go_enter Try.func16, Try.ntmps16
    go_upto_region 3 with (first | ((with_reducible refine gD 1 rfl ?_); go_must (refine boxQ 1 #[.slice A0_0 l0_0.length c0_0, .int .i64 a0_1, .slice A0_2 l0_2.length c0_2, .slice A0_3 l0_3.length c0_3, .int .i64 a0_4] 28 ?_; intro g1 hg w1 hbox hb; have K1 := Aside0.mk hbox; have B1 := Aside0.mk hb; clear hbox hb hg)) | ((with_reducible refine gD 2 rfl ?_); go_must (refine boxQ 2 #[.slice none 0 0, .slice none 0 0] 48 ?_; intro g2 hg w2 hbox hb; have G2 : Aside0 (w.heap.size ≤ g2) := ⟨by rw [hg]; exact below_size B1.out⟩; have N12 := nQ hg K1.out; have K2 := Aside0.mk hbox; have K1 := Aside0.mk (blk_below K1.out hb); have B2 := Aside0.mk (below_step B1.out hb); clear hbox hb hg; obtain ⟨z0, z1, z2, z3, z4⟩ := lasso_cells5 K1.out)) | (go_at_call 15; go_must (refine (scc_Fair.calls k _ _ l0_0 a0_1 _ _ l0_2 _ _ l0_3 a0_4 home er _ (Kd.C_below HR0.out B2.out) HC0.out (Kd.C_below HR2.out B2.out) HC2.out (Kd.C_below HR3.out B2.out) HC3.out HF.out).mono ?_; rintro e w3 ⟨rfl, hb⟩; have B3 := Aside0.mk (below_step B2.out hb); have K1 := Aside0.mk (blk_below K1.out hb); have K2 := Aside0.mk (blk_below K2.out hb); clear hb; clear z0 z1 z2 z3 z4; obtain ⟨z0, z1, z2, z3, z4⟩ := lasso_cells5 K1.out)) | ((with_reducible refine gD 4 rfl ?_); go_must (refine boxQ 4 #[.int .i64 0] 3 ?_; intro g4 hg w4 hbox hb; have G4 : Aside0 (w.heap.size ≤ g4) := ⟨by rw [hg]; exact below_size B3.out⟩; have N14 := nQ hg K1.out; have N24 := nQ hg K2.out; have K4 := Aside0.mk hbox; have K1 := Aside0.mk (blk_below K1.out hb); have K2 := Aside0.mk (blk_below K2.out hb); have B4 := Aside0.mk (below_step B3.out hb); clear hbox hb hg; obtain ⟨c4, f4⟩ := cz1 K4.out; clear z0 z1 z2 z3 z4; obtain ⟨z0, z1, z2, z3, z4⟩ := lasso_cells5 K1.out)) | ((with_reducible refine gS 3 4 rfl ?_); go_must (refine storeQ 3 4 (.tmp 26) (w4.setCell ⟨g4, 0, none⟩ (.int .i64 home)) ?_; clear c4 f4; intro w5 hw; obtain ⟨k4, b5, hx⟩ := lasso_put B4.out G4.out K4.out hw; have K4 := Aside0.mk k4; have B5 := Aside0.mk b5; have K1 := Aside0.mk (hx _ _ N14.out K1.out); have K2 := Aside0.mk (hx _ _ N24.out K2.out); clear k4 b5 hx hw; clear z0 z1 z2 z3 z4; obtain ⟨z0, z1, z2, z3, z4⟩ := lasso_cells5 K1.out)))
    clear z0 z1 z2 z3 z4
    obtain ⟨⟨c20, f20⟩, c21, f21⟩ := cz2 K2.out
    go_wp2
    have KE := ((blk_set (blk_set K2.out 0 (.slice none 0 0)) 1 (.slice none 0 0)).trans rfl : ((w5.setCell ⟨g2, 0, none⟩ (.slice none 0 0)).setCell ⟨g2, 1, none⟩ (.slice none 0 0)).heap[g2]? = some (.cells #[.slice none 0 0, .slice none 0 0] 48 (0, 0)))
    have hu48 := Try.underlying48
    ((try simp only [Exit.inBlock, Exit.then]); refine bodyPost_ret (results_ct rfl _ _ g2 _ _ _ _ rfl KE hu48 rfl (by kernel_rfl)) rfl ?_)
    exact ⟨_, _, rfl, Kd.R_nil _ _ _ _ _, Kd.R_nil _ _ _ _ _, below_set (below_set B5.out G2.out) G2.out⟩

end Go.Proofs.Ytpkigkmkolbiiaa.P
end
