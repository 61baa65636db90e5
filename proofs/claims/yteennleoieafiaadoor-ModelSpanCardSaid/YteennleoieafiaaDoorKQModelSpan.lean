/- The law ModelSpan: the number of states is the product of the variables' values; another variable makes it as much greater. -/
import Derived.Test.YteennleoieafiaaDoorKLModelSpan
import Derived.Test.YteennleoieafiaaDoorK15
namespace Go.Proofs.YteennleoieafiaaDoor.Q
open Go.RowKit Go.Proofs.YteennleoieafiaaDoorW.PrintWords Go.Proofs.YteennleoieafiaaDoorW.PrintMore Go.Proofs.YteennleoieafiaaDoor.P
set_option linter.unusedVariables false
theorem nz_ok : model_name.ok ⟨#[122]⟩ = true := by decide +kernel
/-- A third variable with a few values. -/
theorem own_more {x y z : Vr} (hx : OwnVar foretellkeep_Model.nx x) (hy : OwnVar foretellkeep_Model.ny y) (hz : OwnVar ⟨#[122]⟩ z ∨ (z.f0 = ⟨#[122]⟩ ∧ z.f1 = 0 ∧ 0 ≤ z.f2 ∧ z.f2 ≤ 7 ∧ z.f3 = 0)) : VarsOk [x, y, z] := by
  have s1 := hx.spn
  have s2 := hy.spn
  have hv := own_vars hx hy
  obtain ⟨n3, r3, p3, q3⟩ : z.f0 = ⟨#[122]⟩ ∧ model_variables.rng z ∧ z.f2 - z.f1 < 64 ∧ (1 ≤ spn z ∧ spn z ≤ 8) := by
    rcases hz with h | ⟨h0, h1, h2, h3, h4⟩
    · have := h.spn
      exact ⟨h.name, h.rng, by have := h.hi; omega, by omega⟩
    · refine ⟨h0, ?_, by omega, ?_⟩
      · unfold model_variables.rng; omega
      · unfold spn; omega
  refine ⟨by simp, ?_, ?_, ?_, ?_, ?_⟩
  · intro v h
    simp only [List.mem_cons, List.not_mem_nil, or_false] at h
    rcases h with rfl | rfl | rfl
    · exact hv.nm _ (by simp)
    · exact hv.nm _ (by simp)
    · rw [n3]; exact nz_ok
  · rw [List.map_cons, List.map_cons, List.map_cons, List.map_nil, hx.name, hy.name, n3]
    decide +kernel
  · intro v h
    simp only [List.mem_cons, List.not_mem_nil, or_false] at h
    rcases h with rfl | rfl | rfl
    · exact hv.rng _ (by simp)
    · exact hv.rng _ (by simp)
    · exact r3
  · intro v h
    simp only [List.mem_cons, List.not_mem_nil, or_false] at h
    rcases h with rfl | rfl | rfl
    · exact hv.sp _ (by simp)
    · exact hv.sp _ (by simp)
    · exact p3
  · simp only [cnt, Int.one_mul]
    have h1 : spn z * spn y ≤ 8 * 4 := Int.le_trans (Int.mul_le_mul_of_nonneg_right q3.2 (by omega)) (Int.mul_le_mul_of_nonneg_left s2.2 (by decide))
    have h0 : 0 ≤ spn z * spn y := Int.mul_nonneg (by omega) (by omega)
    have : spn z * spn y * spn x ≤ 32 * 4 := Int.le_trans (Int.mul_le_mul_of_nonneg_right h1 (by omega)) (Int.mul_le_mul_of_nonneg_left s1.2 (by decide))
    omega
theorem RuleOk.more {nv mv : Int} {r : Rl} (h : RuleOk nv r) (hm : nv ≤ mv) : RuleOk mv r := by
  have hty : ∀ {b : Bool} {t : Tm}, Ty nv b t → Ty mv b t := by
    intro b t ht
    induction ht with
    | num v h0 h1 => exact .num v h0 h1
    | var v h0 h1 => exact .var v h0 (by omega)
    | yes o h => exact .yes o h
    | arith o a b h _ _ iha ihb => exact .arith o a b h iha ihb
    | cmp o a b h _ _ iha ihb => exact .cmp o a b h iha ihb
    | not a _ ih => exact .not a ih
    | log o a b h _ _ iha ihb => exact .log o a b h iha ihb
  have hex : ∀ {b : Bool} {l : List Op}, ExOk nv b l → ExOk mv b l := fun ⟨t, e, ht, hs⟩ => ⟨t, e, hty ht, hs⟩
  exact ⟨h.len, hex h.g, h.nd, fun s hs => by have := h.vr s hs; omega, fun s hs => hex (h.vl s hs)⟩
theorem ModelSpan : P.foretellkeep_ModelSpan.Pur := by
  intro a b c d e f l sp hw hsp
  obtain ⟨vs, rs, hm, ho⟩ := own_model hw
  have q0 := pk_lo sp (m := 8) (by decide)
  have q1 := pk_hi sp (m := 8) (by decide)
  refine Ev.rounds (r := true) ?_
  unfold foretellkeep_ModelSpan.f
  refine Ev.bind hm (Ev.bind (count_is ho.m) (Ev.bind (a := pk sp 8) (Ev.congr (fun _ => picked_is hsp (by decide)) (Ev.now _)) ?_))
  obtain ⟨x, y, rfl, ox, oy⟩ := ho.two
  generalize pk sp 8 = q at *
  have sx := ox.spn
  have sy := oy.spn
  have e1 : wrap64 (1 + q) = 1 + q := w64 (n := 1 + q) (by omega) (by omega)
  have e2 : wrap64 (1 + q - 1) = q := by rw [show 1 + q - 1 = q by omega]; exact w64 (n := q) (by omega) (by omega)
  have hm3 : ModelOk [x, y, ⟨⟨#[122]⟩, 0, q, 0⟩] rs := ⟨own_more ox oy (.inr ⟨rfl, rfl, q0, by show q ≤ 7; omega, rfl⟩), ho.m.len, fun r hr => (ho.m.r r hr).more (by simp)⟩
  have hc := count_is hm3
  have bx := spn_w (v := x) (by have := ox.lo; have := ox.hi; omega) ox.hi.1
  have by' := spn_w (v := y) (by have := oy.lo; have := oy.hi; omega) oy.hi.1
  have hn2 : cnt [x, y] = spn y * spn x := by simp [cnt]
  have hn3 : cnt [x, y, (⟨⟨#[122]⟩, 0, q, 0⟩ : Vr)] = (q + 1) * spn y * spn x := by simp [cnt, spn]
  have hxy : spn y * spn x ≤ 4 * 4 := Int.le_trans (Int.mul_le_mul_of_nonneg_right sy.2 (by omega)) (Int.mul_le_mul_of_nonneg_left sx.2 (by decide))
  have hxy0 : 0 ≤ spn y * spn x := Int.mul_nonneg (by omega) (by omega)
  have hq : spn y * spn x * (1 + q) ≤ 16 * 8 := Int.le_trans (Int.mul_le_mul_of_nonneg_right hxy (by omega)) (Int.mul_le_mul_of_nonneg_left (by omega) (by decide))
  have hq0 : 0 ≤ spn y * spn x * (1 + q) := Int.mul_nonneg hxy0 (by omega)
  have r0 : ∀ u v w : Vr, rd_T32 [u, v, w] 0 = u := fun _ _ _ => rfl
  have r1 : ∀ u v w : Vr, rd_T32 [u, v, w] 1 = v := fun _ _ _ => rfl
  have e3 : spn y * spn x = wrap64 (spn x * spn y) := by rw [Int.mul_comm (spn x), w64 (n := spn y * spn x) (by omega) (by omega)]
  have e4 : (q + 1) * spn y * spn x = wrap64 (spn y * spn x * (1 + q)) := by
    rw [w64 (n := spn y * spn x * (1 + q)) (by omega) (by omega), Int.mul_assoc, Int.mul_comm, Int.add_comm q 1]
  simp only [e1, e2, List.nil_append, List.cons_append, List.length_cons, List.length_nil, Option.bind_some, hn2]
  refine Ev.congr (fun k => by rw [if_pos (by decide), if_pos (by decide)]) (Ev.bind hc ?_)
  simp only [if_true, r0, r1, bx.1, by'.1, hn3]
  refine Ev.congr (fun k => by rw [if_pos (by decide), if_pos (by decide), if_pos e3, ← e4]) ?_
  exact ev_some (by simp)
end Go.Proofs.YteennleoieafiaaDoor.Q
