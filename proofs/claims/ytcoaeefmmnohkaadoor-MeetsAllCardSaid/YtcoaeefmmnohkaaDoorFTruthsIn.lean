-- a walk, laid out by a program of this repo over the seat's translation
import Derived.Test.YtcoaeefmmnohkaaDoorF0
import Derived.WalkSpells
namespace Go.Proofs.YtcoaeefmmnohkaaDoor.P
open Go.RowKit Go.Proofs.YtcoaeefmmnohkaaDoorW.PrintWords Go.Proofs.YtcoaeefmmnohkaaDoorW.PrintLast Go.Proofs.YtcoaeefmmnohkaaDoorW.PrintMore Go.Proofs.YtcoaeefmmnohkaaDoor.G
attribute [local go_sem] max2_int min2_int max_two min_two max_three min_three max_four min_four   -- for this text's walks alone
set_option linter.unusedVariables false
set_option linter.unusedSimpArgs false

--IMPORT Derived.WalkSpells
/-! ### truths_in: function 33 -/
theorem truths_first.calls (g12 g14 n co : Nat) (ad : Addr) (at_ : Int) (b : Bool) (w : World) (h12 : w.cell? ⟨g12, 0, none⟩ = some (.slice (some ad) n co)) (h14 : w.cell? ⟨g14, 0, none⟩ = some (.int .i64 at_)) (hb : w.cell? (ad.add (at_ + 1).toNat) = some (.bool b))
    (hw : wrap64 (at_ + 1) = at_ + 1) (h0 : 0 ≤ at_ + 1) (h1 : at_ + 1 < n) : Calls Tryd.prog 33 #[.pointer (some ⟨g12, 0, none⟩), .pointer (some ⟨g14, 0, none⟩)] w fun e w' => e = .returned (.bool b) ∧ w' = w := by
  have q0 := eq_true h0
  have q1 := eq_true h1
  clear h0 h1
  go_enter Tryd.func33, Tryd.ntmps33
  go_wp2
  go_ret
  exact ⟨rfl, rfl⟩
theorem truths_second.calls (g12 g10 g14 n co m ce : Nat) (ad ae : Addr) (at_ x : Int) (b : Bool) (w : World) (h12 : w.cell? ⟨g12, 0, none⟩ = some (.slice (some ad) n co)) (h10 : w.cell? ⟨g10, 0, none⟩ = some (.slice (some ae) m ce)) (h14 : w.cell? ⟨g14, 0, none⟩ = some (.int .i64 at_))
    (he : w.cell? (ae.add (at_ + 1).toNat) = some (.int .i64 x)) (hb : w.cell? (ad.add x.toNat) = some (.bool b)) (hw : wrap64 (at_ + 1) = at_ + 1) (h0 : 0 ≤ at_ + 1) (h1 : at_ + 1 < m) (h2 : 0 ≤ x) (h3 : x < n) :
    Calls Tryd.prog 34 #[.pointer (some ⟨g12, 0, none⟩), .pointer (some ⟨g10, 0, none⟩), .pointer (some ⟨g14, 0, none⟩)] w fun e w' => e = .returned (.bool b) ∧ ∃ k, w' = w.drewN k := by
  have q0 := eq_true h0
  have q1 := eq_true h1
  have q2 := eq_true h2
  have q3 := eq_true h3
  clear h0 h1 h2 h3
  go_enter Tryd.func34, Tryd.ntmps34
  go_wp2
  go_quiet (fail)
  generalize hq : World.drewN w _ = w1
  go_wp2
  go_ret
  exact ⟨rfl, _, hq.symm⟩
/-- A row of numbers that is only read, in a block. -/
def IRow (W : World) (g : Nat) (xs : List Int) : Prop := ∀ i : Nat, i < xs.length → W.cell? ⟨g, i, none⟩ = some (.int .i64 (xs.getD i 0))
theorem IRow.of {W W' : World} {g : Nat} {xs : List Int} (h : IRow W g xs) (e : W'.heap[g]? = W.heap[g]?) : IRow W' g xs := fun i hi => (World.cell?_of_block (w := W) (w' := W') e).trans (h i hi)
/-- What logic.Truths has in memory in its round. -/
structure TrAt (w0 w : World) (g10 g12 g14 ge go ce co : Nat) (es : List Int) (out : List Bool) (at_ : Int) : Prop where
  b10 : w.heap[g10]? = some (.cells #[.slice (some ⟨ge, 0, none⟩) es.length ce] 25 (0, 0))
  b12 : w.heap[g12]? = some (.cells #[.slice (some ⟨go, 0, none⟩) out.length co] 30 (0, 0))
  b14 : w.heap[g14]? = some (.cells #[.int .i64 at_] 3 (0, 0))
  ends : IRow w ge es
  le : ge < w.heap.size
  row : Kd.R Kd.bool 4 w w0.heap.size (fun _ => True) (.slice (some ⟨go, 0, none⟩) out.length co) out
  bel : Below w0.heap.size w0 w
  gle : w0.heap.size ≤ g14
  ne : g14 ≠ ge
  neo : go ≠ ge
section
variable {w0 w w' : World} {g10 g12 g14 ge go ce co : Nat} {es : List Int} {out : List Bool} {at_ : Int}
theorem TrAt.drewN (h : TrAt w0 w g10 g12 g14 ge go ce co es out at_) (m : Nat) : TrAt w0 (w.drewN m) g10 g12 g14 ge go ce co es out at_ :=
  ⟨h.b10, h.b12, h.b14, h.ends, h.le, Kd.R_drewN h.row m, pw_below_drewN h.bel m, h.gle, h.ne, h.neo⟩
theorem TrAt.blk (h : TrAt w0 w g10 g12 g14 ge go ce co es out at_) (hn : 0 < out.length) : (∃ cells, w.heap[go]? = some (.cells cells 4 (0, 0))) ∧ w0.heap.size ≤ go := by
  obtain ⟨gt, cap6, he6, hg, _, cgt, hgt⟩ := Kd.R_form h.row hn
  injection he6 with q1
  injection q1 with q1
  injection q1 with q1
  subst q1
  exact ⟨⟨_, hgt⟩, hg⟩
theorem TrAt.n14 (h : TrAt w0 w g10 g12 g14 ge go ce co es out at_) (hn : 0 < out.length) : g14 ≠ go := by
  obtain ⟨⟨c, hc⟩, _⟩ := h.blk hn
  exact blk_ne h.b14 hc (by decide)
/-- A truth is told. -/
theorem TrAt.put (h : TrAt w0 w g10 g12 g14 ge go ce co es out at_) (hn : 0 < out.length) (i : Nat) (b : Bool) : TrAt w0 (w.setCell ⟨go, i, none⟩ (.bool b)) g10 g12 g14 ge go ce co es (out.set i b) at_ := by
  obtain ⟨⟨c, hc⟩, hg⟩ := h.blk hn
  have n10 := blk_ne h.b10 hc (by decide)
  have n12 := blk_ne h.b12 hc (by decide)
  have n14 := blk_ne h.b14 hc (by decide)
  have hp := (Kd.R_putg h.row (i : Int) b).1
  rw [Int.toNat_natCast] at hp
  refine ⟨blk_far (p := ⟨go, i, none⟩) h.b10 n10 _, by rw [List.length_set]; exact blk_far (p := ⟨go, i, none⟩) h.b12 n12 _, blk_far (p := ⟨go, i, none⟩) h.b14 n14 _, h.ends.of (Below.heap_setCell w ⟨go, i, none⟩ _ ge h.neo.symm), ?_, by rw [List.length_set]; exact hp, h.bel.setCell (p := ⟨go, i, none⟩) hg _, h.gle, h.ne, h.neo⟩
  have := ((Below.refl 0 w).setCell (p := ⟨go, i, none⟩) (Nat.zero_le _) (.bool b)).size
  exact Nat.lt_of_lt_of_le h.le this
/-- The place goes on. -/
theorem TrAt.move (h : TrAt w0 w g10 g12 g14 ge go ce co es out at_) (x : Int) : TrAt w0 (w.setCell ⟨g14, 0, none⟩ (.int .i64 x)) g10 g12 g14 ge go ce co es out x := by
  have n10 := blk_ne h.b10 h.b14 (by decide)
  have n12 := blk_ne h.b12 h.b14 (by decide)
  refine ⟨blk_far (p := ⟨g14, 0, none⟩) h.b10 n10 _, blk_far (p := ⟨g14, 0, none⟩) h.b12 n12 _, blk_put h.b14 0 _ rfl, h.ends.of (Below.heap_setCell w ⟨g14, 0, none⟩ _ ge h.ne.symm), ?_, Kd.R_set h.row h.b14 (by decide) _ _, h.bel.setCell (p := ⟨g14, 0, none⟩) h.gle _, h.gle, h.ne, h.neo⟩
  have := ((Below.refl 0 w).setCell (p := ⟨g14, 0, none⟩) (Nat.zero_le _) (.int .i64 x)).size
  exact Nat.lt_of_lt_of_le h.le this
/-- The round's own variable is a new one. -/
theorem TrAt.fresh (h : TrAt w0 w g10 g12 g14 ge go ce co es out at_) {g : Nat} {x : Int} (hg : g = w.heap.size) (hk : w'.heap[g]? = some (.cells #[.int .i64 x] 3 (0, 0))) (hb : Below w.heap.size w w') : TrAt w0 w' g10 g12 g ge go ce co es out x :=
  ⟨blk_below h.b10 hb, blk_below h.b12 hb, hk, h.ends.of (hb.block _ h.le), Nat.lt_of_lt_of_le h.le (below_size hb), Kd.R_below h.row hb, below_step h.bel hb, by rw [hg]; exact below_size h.bel, by rw [hg]; exact (Nat.ne_of_lt h.le).symm, h.neo⟩
end

end Go.Proofs.YtcoaeefmmnohkaaDoor.P
