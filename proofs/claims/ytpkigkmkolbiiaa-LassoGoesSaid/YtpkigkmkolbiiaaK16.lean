-- PACKED by pack.py of this repo: QTarjan
import Derived.Test.YtpkigkmkolbiiaaK8
import Derived.Test.YtpkigkmkolbiiaaK11
section
namespace Go.Proofs.Ytpkigkmkolbiiaa.Q
open Go.RowKit Go.Proofs.YtpkigkmkolbiiaaW.PrintWords Go.Proofs.YtpkigkmkolbiiaaW.PrintMore Go.Proofs.Ytpkigkmkolbiiaa.P
set_option linter.unusedVariables false
abbrev Fr := S64
theorem rd_set {l : List Int} {i j x : Int} (h0 : 0 ≤ i) (h1 : i < l.length) (hj : 0 ≤ j) : rd (l.set i.toNat x) j = if j = i then x else rd l j := by
  unfold rd
  rw [List.getD_eq_getElem?_getD, List.getD_eq_getElem?_getD, List.getElem?_set]
  by_cases c : j = i
  · subst c
    rw [if_pos rfl, if_pos rfl, if_pos (by omega)]
    rfl
  · rw [if_neg (by omega), if_neg c]
theorem cnt0_set {l : List Int} {i x : Int} (h0 : 0 ≤ i) (h1 : i < l.length) (h : rd l i = 0) (hx : x ≠ 0) : (l.set i.toNat x).count 0 + 1 = l.count 0 := by
  have hi : i.toNat < l.length := by omega
  have e : l[i.toNat] = 0 := by
    unfold rd at h
    rw [List.getD_eq_getElem?_getD, List.getElem?_eq_getElem hi] at h
    exact h
  have hp : 0 < l.count 0 := List.count_pos_iff.2 (by rw [← e]; exact List.getElem_mem hi)
  have hb : (x == 0) = false := by simpa using hx
  rw [List.count_set hi, e, hb]
  simp
  omega
def EP (nx : List (List Int)) (calls : List Fr) (v w : Int) : Prop := w ∈ rd_L1 nx v ∧ ∀ c ∈ calls, c.f0 = v → w ∈ (rd_L1 nx v).take c.f1.toNat
structure TI (n : Nat) (nx : List (List Int)) (st : SrSt) (X : Int → Int → Prop) : Prop where
  lo : st.order.length = n
  ll : st.low.length = n
  lp : st.part.length = n
  m0 : 0 ≤ st.met
  mc : st.met + (st.order.count 0 : Nat) = n
  ob : ∀ v : Int, 0 ≤ v → v < n → 0 ≤ rd st.order v ∧ rd st.order v ≤ st.met
  un : ∀ v : Int, 0 ≤ v → v < n → rd st.order v = 0 → rd st.part v = -1
  pn : ∀ v : Int, 0 ≤ v → v < n → rd st.part v = -1 ∨ 0 ≤ rd st.part v
  op : ∀ v : Int, v ∈ st.opn ↔ 0 ≤ v ∧ v < n ∧ 0 < rd st.order v ∧ rd st.part v = -1
  os : st.opn.Pairwise (fun a b => rd st.order a < rd st.order b)
  cm : ∀ c ∈ st.calls, c.f0 ∈ st.opn ∧ 0 ≤ c.f1 ∧ c.f1 ≤ ((rd_L1 nx c.f0).length : Int)
  cs : st.calls.Pairwise (fun a b => rd st.order a.f0 < rd st.order b.f0)
  p1 : ∀ v w, v ∈ st.opn → EP nx st.calls v w → X v w ∨ 0 < rd st.order w
  i1 : ∀ u, u ∈ st.opn → ∀ c ∈ st.calls, rd st.order c.f0 ≤ rd st.order u → Rch nx c.f0 u
  i2 : ∀ u, u ∈ st.opn → ∃ c ∈ st.calls, rd st.order c.f0 ≤ rd st.order u ∧ Rch nx u c.f0
  i4 : ∀ u w, u ∈ st.opn → w ∈ st.opn → EP nx st.calls u w → ∀ c ∈ st.calls, rd st.order c.f0 ≤ rd st.order u → (∀ d ∈ st.calls, rd st.order d.f0 ≤ rd st.order u → rd st.order d.f0 ≤ rd st.order c.f0) → X u w ∨ rd st.low c.f0 ≤ rd st.order w
  i5 : ∀ c ∈ st.calls, rd st.low c.f0 ≤ rd st.order c.f0
  i6 : ∀ c ∈ st.calls, ∃ w ∈ st.opn, rd st.order w = rd st.low c.f0 ∧ Rch nx c.f0 w
  d1 : ∀ v : Int, 0 ≤ v → v < n → 0 ≤ rd st.part v → ∀ w ∈ rd_L1 nx v, 0 ≤ rd st.part w
  d2 : ∀ v : Int, 0 ≤ v → v < n → 0 ≤ rd st.part v → rd st.part v ≤ v ∧ rd st.part (rd st.part v) = rd st.part v ∧ Rch nx v (rd st.part v) ∧ Rch nx (rd st.part v) v
  d3 : ∀ u w : Int, 0 ≤ u → u < n → 0 ≤ w → w < n → 0 ≤ rd st.part u → 0 ≤ rd st.part w → Rch nx u w → Rch nx w u → rd st.part u = rd st.part w
def NoX (_ _ : Int) : Prop := False
section
variable {n : Nat} {nx : List (List Int)} {st : SrSt} {X : Int → Int → Prop}
theorem pair_inj {α : Type} {f : α → Int} {l : List α} (h : l.Pairwise (fun a b => f a < f b)) {a b : α} (ha : a ∈ l) (hb : b ∈ l) (he : f a = f b) : a = b := by
  obtain ⟨i, hi, rfl⟩ := List.getElem_of_mem ha
  obtain ⟨j, hj, rfl⟩ := List.getElem_of_mem hb
  rw [List.pairwise_iff_getElem] at h
  rcases Nat.lt_trichotomy i j with c | c | c
  · have := h i j hi hj c
    omega
  · subst c
    rfl
  · have := h j i hj hi c
    omega
theorem TI.inj (h : TI n nx st X) {u w : Int} (hu : u ∈ st.opn) (hw : w ∈ st.opn) (he : rd st.order u = rd st.order w) : u = w := pair_inj h.os hu hw he
theorem TI.rg (h : TI n nx st X) {u : Int} (hu : u ∈ st.opn) : 0 ≤ u ∧ u < n := ⟨((h.op u).1 hu).1, ((h.op u).1 hu).2.1⟩
theorem TI.crg (h : TI n nx st X) {c : Fr} (hc : c ∈ st.calls) : 0 ≤ c.f0 ∧ c.f0 < n := h.rg (h.cm c hc).1
theorem mem_snoc {α : Type} {l : List α} {x y : α} : x ∈ l ++ [y] ↔ x ∈ l ∨ x = y := by simp
theorem TI.enter (g : Gr n nx) (h : TI n nx st X) {k : Int} (k0 : 0 ≤ k) (k1 : k < n) (hk : rd st.order k = 0) (hX : ∀ v w, X v w → w = k) (hr : ∀ c ∈ st.calls, Rch nx c.f0 k) : TI n nx (search_enter.st st k) NoX := by
  have hlo := h.lo
  have hll := h.ll
  have hc := cnt0_set (x := st.met + 1) k0 (by rw [hlo]; exact k1) hk (by have := h.m0; omega)
  have hm0 := h.m0
  have hmc := h.mc
  have hgl := g.le
  have hw : wrap64 (st.met + 1) = st.met + 1 := w64 (by omega) (by omega)
  unfold search_enter.st
  rw [hw]
  have ho : ∀ v : Int, 0 ≤ v → rd (st.order.set k.toNat (st.met + 1)) v = if v = k then st.met + 1 else rd st.order v := fun v hv => rd_set k0 (by rw [hlo]; exact k1) hv
  have hl : ∀ v : Int, 0 ≤ v → rd (st.low.set k.toNat (st.met + 1)) v = if v = k then st.met + 1 else rd st.low v := fun v hv => rd_set k0 (by rw [hll]; exact k1) hv
  have hkn : k ∉ st.opn := fun hh => by have := ((h.op k).1 hh).2.2.1; omega
  have ne : ∀ v, v ∈ st.opn → v ≠ k := fun v hv e => hkn (e ▸ hv)
  have oo : ∀ v, v ∈ st.opn → rd (st.order.set k.toNat (st.met + 1)) v = rd st.order v := fun v hv => by rw [ho v (h.rg hv).1, if_neg (ne v hv)]
  have ol : ∀ v, v ∈ st.opn → rd (st.low.set k.toNat (st.met + 1)) v = rd st.low v := fun v hv => by rw [hl v (h.rg hv).1, if_neg (ne v hv)]
  have ok : rd (st.order.set k.toNat (st.met + 1)) k = st.met + 1 := by rw [ho k k0, if_pos rfl]
  have lk : rd (st.low.set k.toNat (st.met + 1)) k = st.met + 1 := by rw [hl k k0, if_pos rfl]
  have om : ∀ v, v ∈ st.opn → rd st.order v ≤ st.met := fun v hv => (h.ob v (h.rg hv).1 (h.rg hv).2).2
  have co : ∀ c ∈ st.calls, c.f0 ∈ st.opn := fun c hc => (h.cm c hc).1
  have ep : ∀ v w, EP nx (st.calls ++ [⟨k, 0⟩]) v w → EP nx st.calls v w := fun v w hh => ⟨hh.1, fun c hc => hh.2 c (List.mem_append_left _ hc)⟩
  have epk : ∀ w, ¬ EP nx (st.calls ++ [⟨k, 0⟩]) k w := fun w hh => by
    have := hh.2 ⟨k, 0⟩ (by simp) rfl
    simp at this
  refine ⟨by simp [hlo], by simp [hll], h.lp, by simp only; omega, by simp only; omega, ?_, ?_, h.pn, ?_, ?_, ?_, ?_, ?_, ?_, ?_, ?_, ?_, ?_, h.d1, h.d2, h.d3⟩
  · intro v v0 v1
    simp only
    rw [ho v v0]
    have := h.ob v v0 v1
    split <;> omega
  · intro v v0 v1
    simp only
    rw [ho v v0]
    split
    · intro; omega
    · exact h.un v v0 v1
  · intro v
    simp only
    rw [mem_snoc, h.op v]
    constructor
    · rintro (⟨a, b, c, d⟩ | rfl)
      · refine ⟨a, b, ?_, d⟩
        rw [ho v a]
        split <;> omega
      · exact ⟨k0, k1, by rw [ok]; omega, h.un _ k0 k1 hk⟩
    · rintro ⟨a, b, c, d⟩
      rw [ho v a] at c
      by_cases e : v = k
      · exact .inr e
      · rw [if_neg e] at c
        exact .inl ⟨a, b, c, d⟩
  · simp only
    rw [List.pairwise_append]
    refine ⟨h.os.imp_of_mem fun {a b} ha hb hab => by rw [oo a ha, oo b hb]; exact hab, List.pairwise_singleton _ _, fun a ha b hb => ?_⟩
    obtain rfl := List.mem_singleton.1 hb
    rw [oo a ha, ok]
    have := om a ha
    omega
  · intro c hc
    simp only at hc ⊢
    rcases mem_snoc.1 hc with hc | rfl
    · exact ⟨List.mem_append_left _ (h.cm c hc).1, (h.cm c hc).2⟩
    · exact ⟨by simp, by simp, by simp⟩
  · simp only
    rw [List.pairwise_append]
    refine ⟨h.cs.imp_of_mem fun {a b} ha hb hab => by rw [oo a.f0 (co a ha), oo b.f0 (co b hb)]; exact hab, List.pairwise_singleton _ _, fun a ha b hb => ?_⟩
    obtain rfl := List.mem_singleton.1 hb
    rw [oo a.f0 (co a ha), ok]
    have := om a.f0 (co a ha)
    omega
  · intro v w hv he
    simp only at hv he ⊢
    right
    rcases mem_snoc.1 hv with hv | rfl
    · have hwr := g.ok v (h.rg hv).1 (h.rg hv).2 w he.1
      rw [ho w hwr.1]
      rcases h.p1 v w hv (ep v w he) with hx | hx
      · rw [if_pos (hX v w hx)]; omega
      · split <;> omega
    · exact absurd he (epk w)
  · intro u hu c hc hle
    simp only at hu hc hle ⊢
    rcases mem_snoc.1 hc with hc1 | rfl
    · rcases mem_snoc.1 hu with hu | rfl
      · rw [oo _ (co c hc1), oo u hu] at hle
        exact h.i1 u hu c hc1 hle
      · exact hr c hc1
    · rcases mem_snoc.1 hu with hu | rfl
      · have := om u hu
        simp only at hle
        rw [ok, oo u hu] at hle
        omega
      · exact Rch.refl _
  · intro u hu
    simp only at hu ⊢
    rcases mem_snoc.1 hu with hu | rfl
    · obtain ⟨c, hc, h1, h2⟩ := h.i2 u hu
      exact ⟨c, List.mem_append_left _ hc, by rw [oo _ (co c hc), oo u hu]; exact h1, h2⟩
    · exact ⟨⟨u, 0⟩, by simp, Int.le_refl _, Rch.refl _⟩
  · intro u w hu hw he c hc hle how
    simp only at hu hw he hc hle how ⊢
    right
    rcases mem_snoc.1 hu with hu | rfl
    · rcases mem_snoc.1 hc with hc1 | rfl
      · rw [ol _ (co c hc1)]
        rcases mem_snoc.1 hw with hw | rfl
        · rw [oo w hw]
          rcases h.i4 u w hu hw (ep u w he) c hc1 (by rw [oo _ (co c hc1), oo u hu] at hle; exact hle) (fun d hd hdu => by
            have := how d (List.mem_append_left _ hd) (by rw [oo _ (co d hd), oo u hu]; exact hdu)
            rw [oo _ (co d hd), oo _ (co c hc1)] at this
            exact this) with hx | hx
          · exact absurd (hX u w hx) (ne w hw)
          · exact hx
        · rw [ok]
          have h1 := h.i5 c hc1
          have h2 := om _ (co c hc1)
          omega
      · have := om u hu
        simp only at hle
        rw [ok, oo u hu] at hle
        omega
    · exact absurd he (epk w)
  · intro c hc
    simp only at hc ⊢
    rcases mem_snoc.1 hc with hc | rfl
    · rw [ol _ (co c hc), oo _ (co c hc)]
      exact h.i5 c hc
    · simp only
      rw [ok, lk]
      exact Int.le_refl _
  · intro c hc
    simp only at hc ⊢
    rcases mem_snoc.1 hc with hc | rfl
    · obtain ⟨w, hw, h1, h2⟩ := h.i6 c hc
      exact ⟨w, List.mem_append_left _ hw, by rw [oo w hw, ol _ (co c hc)]; exact h1, h2⟩
    · exact ⟨k, by simp, by simp only; rw [ok, lk], Rch.refl _⟩
theorem take_succ_mem {l : List Int} {j : Int} (h0 : 0 ≤ j) (h1 : j < l.length) {w : Int} (h : w ∈ l.take (j + 1).toNat) : w ∈ l.take j.toNat ∨ w = rd l j := by
  have hj : j.toNat < l.length := by omega
  rw [show (j + 1).toNat = j.toNat + 1 by omega, List.take_succ_eq_append_getElem hj, mem_snoc] at h
  rcases h with h | h
  · exact .inl h
  · right
    rw [h]
    unfold rd
    rw [List.getD_eq_getElem?_getD, List.getElem?_eq_getElem hj]
    rfl
theorem rd_mem {l : List Int} {j : Int} (h0 : 0 ≤ j) (h1 : j < l.length) : rd l j ∈ l := by
  have hj : j.toNat < l.length := by omega
  unfold rd
  rw [List.getD_eq_getElem?_getD, List.getElem?_eq_getElem hj]
  exact List.getElem_mem hj
theorem TI.adv (h : TI n nx st NoX) {ys : List Fr} {a j : Int} (hc : st.calls = ys ++ [⟨a, j⟩]) (hj : j < ((rd_L1 nx a).length : Int)) :
    TI n nx { st with calls := ys ++ [⟨a, j + 1⟩] } (fun v w => v = a ∧ w = rd (rd_L1 nx a) j) := by
  have hl := h.cm ⟨a, j⟩ (by rw [hc]; simp)
  have hj0 : 0 ≤ j := hl.2.1
  have back : ∀ c ∈ ys ++ [(⟨a, j + 1⟩ : Fr)], ∃ d ∈ st.calls, d.f0 = c.f0 := fun c hh => by
    rcases mem_snoc.1 hh with hh | rfl
    · exact ⟨c, by rw [hc]; exact List.mem_append_left _ hh, rfl⟩
    · exact ⟨⟨a, j⟩, by rw [hc]; simp, rfl⟩
  have fwd : ∀ d ∈ st.calls, ∃ c ∈ ys ++ [(⟨a, j + 1⟩ : Fr)], c.f0 = d.f0 := fun d hh => by
    rw [hc] at hh
    rcases mem_snoc.1 hh with hh | rfl
    · exact ⟨d, List.mem_append_left _ hh, rfl⟩
    · exact ⟨⟨a, j + 1⟩, by simp, rfl⟩
  have ep : ∀ v w, EP nx (ys ++ [⟨a, j + 1⟩]) v w → (v = a ∧ w = rd (rd_L1 nx a) j) ∨ EP nx st.calls v w := by
    intro v w he
    by_cases hx : v = a ∧ w = rd (rd_L1 nx a) j
    · exact .inl hx
    · refine .inr ⟨he.1, fun c hh hf => ?_⟩
      rw [hc] at hh
      rcases mem_snoc.1 hh with hh | rfl
      · exact he.2 c (List.mem_append_left _ hh) hf
      · simp only at hf ⊢
        subst hf
        have := he.2 ⟨a, j + 1⟩ (by simp) rfl
        rcases take_succ_mem hj0 hj this with h1 | h1
        · exact h1
        · exact absurd ⟨rfl, h1⟩ hx
  refine ⟨h.lo, h.ll, h.lp, h.m0, h.mc, h.ob, h.un, h.pn, h.op, h.os, ?_, ?_, ?_, ?_, ?_, ?_, ?_, ?_, h.d1, h.d2, h.d3⟩
  · intro c hh
    simp only at hh ⊢
    rcases mem_snoc.1 hh with hh | rfl
    · exact h.cm c (by rw [hc]; exact List.mem_append_left _ hh)
    · exact ⟨hl.1, by simp only; omega, by simp only; omega⟩
  · have := h.cs
    rw [hc, List.pairwise_append] at this
    simp only
    rw [List.pairwise_append]
    refine ⟨this.1, List.pairwise_singleton _ _, fun x hx b hb => ?_⟩
    obtain rfl := List.mem_singleton.1 hb
    exact this.2.2 x hx ⟨a, j⟩ (by simp)
  · intro v w hv he
    rcases ep v w he with hx | hx
    · exact .inl hx
    · exact .inr ((h.p1 v w hv hx).resolve_left id)
  · intro u hu c hh hle
    obtain ⟨d, hd, e⟩ := back c hh
    rw [← e] at hle ⊢
    exact h.i1 u hu d hd hle
  · intro u hu
    obtain ⟨d, hd, h1, h2⟩ := h.i2 u hu
    obtain ⟨c, hh, e⟩ := fwd d hd
    exact ⟨c, hh, by rw [e]; exact h1, by rw [e]; exact h2⟩
  · intro u w hu hw he c hh hle how
    rcases ep u w he with hx | hx
    · exact .inl hx
    · obtain ⟨d, hd, e⟩ := back c hh
      rw [← e] at hle how ⊢
      refine .inr ((h.i4 u w hu hw hx d hd hle fun d' hd' hle' => ?_).resolve_left id)
      obtain ⟨c', hh', e'⟩ := fwd d' hd'
      have := how c' hh' (by rw [e']; exact hle')
      rw [e'] at this
      exact this
  · intro c hh
    obtain ⟨d, hd, e⟩ := back c hh
    have := h.i5 d hd
    rw [e] at this
    exact this
  · intro c hh
    obtain ⟨d, hd, e⟩ := back c hh
    have := h.i6 d hd
    rw [e] at this
    exact this
theorem TI.known (h : TI n nx st X) {a k : Int} (hX : ∀ v w, X v w → v = a ∧ w = k) (hk : 0 < rd st.order k) (hp : 0 ≤ rd st.part k) : TI n nx st NoX := by
  refine ⟨h.lo, h.ll, h.lp, h.m0, h.mc, h.ob, h.un, h.pn, h.op, h.os, h.cm, h.cs, ?_, h.i1, h.i2, ?_, h.i5, h.i6, h.d1, h.d2, h.d3⟩
  · intro v w hv he
    rcases h.p1 v w hv he with hx | hx
    · rw [(hX v w hx).2]
      exact .inr hk
    · exact .inr hx
  · intro u w hu hw he c hc hle how
    rcases h.i4 u w hu hw he c hc hle how with hx | hx
    · have := ((h.op w).1 hw).2.2.2
      rw [(hX u w hx).2] at this
      omega
    · exact .inr hx
theorem TI.lower (h : TI n nx st X) {ys : List Fr} {a j k : Int} (hc : st.calls = ys ++ [⟨a, j⟩]) (hX : ∀ v w, X v w → v = a ∧ w = k) (hk : k ∈ st.opn) (hr : k ∈ rd_L1 nx a) :
    TI n nx { st with low := st.low.set a.toNat (mn (rd st.low a) (rd st.order k)) } NoX := by
  have hll := h.ll
  have hca : (⟨a, j⟩ : Fr) ∈ st.calls := by rw [hc]; simp
  have ha := h.crg hca
  simp only at ha
  have hao := (h.cm _ hca).1
  simp only at hao
  have hl : ∀ v : Int, 0 ≤ v → rd (st.low.set a.toNat (mn (rd st.low a) (rd st.order k))) v = if v = a then mn (rd st.low a) (rd st.order k) else rd st.low v := fun v hv => rd_set ha.1 (by rw [hll]; exact ha.2) hv
  have hm : mn (rd st.low a) (rd st.order k) ≤ rd st.low a ∧ mn (rd st.low a) (rd st.order k) ≤ rd st.order k := by unfold mn; split <;> omega
  have hmo : mn (rd st.low a) (rd st.order k) = rd st.low a ∨ mn (rd st.low a) (rd st.order k) = rd st.order k := by unfold mn; split <;> simp
  have hle : ∀ c ∈ st.calls, rd (st.low.set a.toNat (mn (rd st.low a) (rd st.order k))) c.f0 ≤ rd st.low c.f0 := by
    intro c hh
    rw [hl _ (h.crg hh).1]
    split
    · rename_i e
      rw [e]
      exact hm.1
    · exact Int.le_refl _
  refine ⟨h.lo, by simp [hll], h.lp, h.m0, h.mc, h.ob, h.un, h.pn, h.op, h.os, h.cm, h.cs, ?_, h.i1, h.i2, ?_, ?_, ?_, h.d1, h.d2, h.d3⟩
  · intro v w hv he
    rcases h.p1 v w hv he with hx | hx
    · rw [(hX v w hx).2]
      exact .inr ((h.op k).1 hk).2.2.1
    · exact .inr hx
  · intro u w hu hw he c hh hl2 how
    right
    simp only at hu hw hh hl2 how ⊢
    rcases h.i4 u w hu hw he c hh hl2 how with hx | hx
    · obtain ⟨rfl, rfl⟩ := hX u w hx
      have h1 := how ⟨u, j⟩ hca (Int.le_refl _)
      simp only at h1
      have e : c.f0 = u := h.inj (h.cm c hh).1 hao (by omega)
      rw [e, hl u ha.1, if_pos rfl]
      exact hm.2
    · have := hle c hh
      omega
  · intro c hh
    simp only at hh ⊢
    have h1 := hle c hh
    have h2 := h.i5 c hh
    omega
  · intro c hh
    simp only at hh ⊢
    rw [hl _ (h.crg hh).1]
    split
    · rename_i e
      rw [e]
      rcases hmo with e2 | e2
      · rw [e2]
        have := h.i6 ⟨a, j⟩ hca
        exact this
      · rw [e2]
        exact ⟨k, hk, rfl, (Rch.refl a).tail hr⟩
    · exact h.i6 c hh
structure Lv (n : Nat) (nx : List (List Int)) (st : SrSt) (ys : List Fr) (a : Int) : Prop where
  sub : ∀ c ∈ ys, c ∈ st.calls
  or : ∀ c ∈ st.calls, c ∈ ys ∨ c.f0 = a
  lt : ∀ c ∈ ys, rd st.order c.f0 < rd st.order a
  top : ∀ c ∈ st.calls, rd st.order c.f0 ≤ rd st.order a
  ao : a ∈ st.opn
  ep : ∀ v w, EP nx ys v w → EP nx st.calls v w
  ca : ∃ c ∈ st.calls, c.f0 = a
theorem TI.lv (h : TI n nx st X) {ys : List Fr} {a j : Int} (hc : st.calls = ys ++ [⟨a, j⟩]) (hj : j = ((rd_L1 nx a).length : Int)) : Lv n nx st ys a := by
  have hca : (⟨a, j⟩ : Fr) ∈ st.calls := by rw [hc]; simp
  have hcs := h.cs
  rw [hc, List.pairwise_append] at hcs
  have hlt : ∀ c ∈ ys, rd st.order c.f0 < rd st.order a := fun c hh => hcs.2.2 c hh ⟨a, j⟩ (by simp)
  refine ⟨fun c hh => by rw [hc]; exact List.mem_append_left _ hh, fun c hh => ?_, hlt, fun c hh => ?_, (h.cm _ hca).1, fun v w he => ⟨he.1, fun c hh hf => ?_⟩, ⟨_, hca, rfl⟩⟩
  · rw [hc] at hh
    rcases mem_snoc.1 hh with hh | rfl
    · exact .inl hh
    · exact .inr rfl
  · rw [hc] at hh
    rcases mem_snoc.1 hh with hh | rfl
    · exact Int.le_of_lt (hlt c hh)
    · exact Int.le_refl _
  · rw [hc] at hh
    rcases mem_snoc.1 hh with hh | rfl
    · exact he.2 c hh hf
    · simp only at hf ⊢
      subst hf
      rw [hj, Int.toNat_natCast, List.take_length]
      exact he.1
theorem low_snoc (zs : List Fr) (p : Fr) (st : SrSt) (a : Int) : search_leave.low (zs ++ [p]) st a = st.low.set p.f0.toNat (mn (rd st.low p.f0) (rd st.low a)) := by
  unfold search_leave.low
  simp
theorem low_at (h : TI n nx st X) {ys : List Fr} {a : Int} (hs : ∀ c ∈ ys, c ∈ st.calls) (v : Int) (hv : 0 ≤ v) (hn : ∀ c ∈ ys, c.f0 ≠ v) : rd (search_leave.low ys st a) v = rd st.low v := by
  rcases G.snoc_cases ys with rfl | ⟨zs, p, rfl⟩
  · rfl
  · rw [low_snoc, rd_set (h.crg (hs p (by simp))).1 (by rw [h.ll]; exact (h.crg (hs p (by simp))).2) hv, if_neg fun e => hn p (by simp) e.symm]
theorem TI.stay (h : TI n nx st NoX) {ys : List Fr} {a j : Int} (hc : st.calls = ys ++ [⟨a, j⟩]) (hj : j = ((rd_L1 nx a).length : Int)) (hlow : rd st.low a ≠ rd st.order a) : TI n nx (search_leave.lp ys st a) NoX := by
  have L := h.lv hc hj
  have hca : (⟨a, j⟩ : Fr) ∈ st.calls := by rw [hc]; simp
  have h5 := h.i5 _ hca
  simp only at h5
  obtain ⟨w0, hw0, hwo, hwr⟩ := h.i6 _ hca
  simp only at hwo hwr
  obtain ⟨c0, hc0, hco, hcr⟩ := h.i2 w0 hw0
  have hc0y : c0 ∈ ys := by
    rcases L.or c0 hc0 with e | e
    · exact e
    · rw [e] at hco
      omega
  have hne : ys ≠ [] := fun e => by rw [e] at hc0y; exact absurd hc0y (by simp)
  rcases G.snoc_cases ys with rfl | ⟨zs, p, rfl⟩
  · exact absurd rfl hne
  have hp : p ∈ zs ++ [p] := by simp
  have hpc := L.sub p hp
  have hpr := h.crg hpc
  have hl : ∀ v : Int, 0 ≤ v → rd (st.low.set p.f0.toNat (mn (rd st.low p.f0) (rd st.low a))) v = if v = p.f0 then mn (rd st.low p.f0) (rd st.low a) else rd st.low v := fun v hv => rd_set hpr.1 (by rw [h.ll]; exact hpr.2) hv
  have hm : mn (rd st.low p.f0) (rd st.low a) ≤ rd st.low p.f0 ∧ mn (rd st.low p.f0) (rd st.low a) ≤ rd st.low a := by unfold mn; split <;> omega
  have hmo : mn (rd st.low p.f0) (rd st.low a) = rd st.low p.f0 ∨ mn (rd st.low p.f0) (rd st.low a) = rd st.low a := by unfold mn; split <;> simp
  have hle : ∀ c ∈ st.calls, rd (st.low.set p.f0.toNat (mn (rd st.low p.f0) (rd st.low a))) c.f0 ≤ rd st.low c.f0 := by
    intro c hh
    rw [hl _ (h.crg hh).1]
    split
    · rename_i e
      rw [e]
      exact hm.1
    · exact Int.le_refl _
  have htop : ∀ c ∈ zs ++ [p], rd st.order c.f0 ≤ rd st.order p.f0 := by
    intro c hh
    have hcs := h.cs
    rw [hc, List.pairwise_append, List.pairwise_append] at hcs
    rcases mem_snoc.1 hh with hh | rfl
    · exact Int.le_of_lt (hcs.1.2.2 c hh p (by simp))
    · exact Int.le_refl _
  unfold search_leave.lp
  rw [low_snoc]
  have hcs := h.cs
  rw [hc, List.pairwise_append] at hcs
  refine ⟨h.lo, by simp [h.ll], h.lp, h.m0, h.mc, h.ob, h.un, h.pn, h.op, h.os, fun c hh => h.cm c (L.sub c hh), hcs.1, ?_, ?_, ?_, ?_, ?_, ?_, h.d1, h.d2, h.d3⟩
  · intro v w hv he
    exact h.p1 v w hv (L.ep v w he)
  · intro u hu c hh hle2
    exact h.i1 u hu c (L.sub c hh) hle2
  · intro u hu
    obtain ⟨c, hh, h1, h2⟩ := h.i2 u hu
    rcases L.or c hh with e | e
    · exact ⟨c, e, h1, h2⟩
    · rw [e] at h1 h2
      exact ⟨c0, hc0y, by simp only; omega, (h2.trans hwr).trans hcr⟩
  · intro u w hu hw he c hh hl2 how
    right
    simp only at hu hw hh hl2 how ⊢
    by_cases hau : rd st.order a ≤ rd st.order u
    · have h1 := how p hp (by have := L.lt p hp; omega)
      have h2 := htop c hh
      have e : c.f0 = p.f0 := h.inj (h.cm c (L.sub c hh)).1 (h.cm p hpc).1 (by omega)
      have h3 := (h.i4 u w hu hw (L.ep u w he) ⟨a, j⟩ hca hau (fun d hd _ => L.top d hd)).resolve_left id
      simp only at h3
      rw [e, hl _ hpr.1, if_pos rfl]
      omega
    · have h3 := (h.i4 u w hu hw (L.ep u w he) c (L.sub c hh) hl2 (fun d hd hdu => by
        rcases L.or d hd with e | e
        · exact how d e hdu
        · rw [e] at hdu
          omega)).resolve_left id
      have := hle c (L.sub c hh)
      omega
  · intro c hh
    simp only at hh ⊢
    have h1 := hle c (L.sub c hh)
    have h2 := h.i5 c (L.sub c hh)
    omega
  · intro c hh
    simp only at hh ⊢
    rw [hl _ (h.crg (L.sub c hh)).1]
    split
    · rename_i e
      rw [e]
      rcases hmo with e2 | e2
      · rw [e2]
        exact h.i6 p hpc
      · rw [e2]
        exact ⟨w0, hw0, hwo, (h.i1 a L.ao p hpc (Int.le_of_lt (L.lt p hp))).trans hwr⟩
    · exact h.i6 c (L.sub c hh)
theorem back_is (P : List Int) (a : Int) (Q : List Int) (hQ : a ∉ Q) : ∀ m, P.length ≤ m → m < (P ++ a :: Q).length → search_leave.back (P ++ a :: Q) a m = some P.length := by
  intro m
  induction m with
  | zero =>
    intro h0 h1
    obtain rfl : P = [] := List.length_eq_zero_iff.1 (by omega)
    unfold search_leave.back
    rw [if_pos (by simp [rd])]
    rfl
  | succ m ih =>
    intro h0 h1
    unfold search_leave.back
    by_cases e : P.length = m + 1
    · rw [if_pos, e]
      rw [rd_eq h1, List.getElem_append_right (by omega)]
      simp [e]
    · have h2 : m + 1 < (P ++ a :: Q).length := h1
      rw [if_neg, ih (by omega) (by omega)]
      rw [rd_eq h2, List.getElem_append_right (by omega)]
      obtain ⟨d, hd⟩ : ∃ d, m + 1 - P.length = d + 1 := ⟨m - P.length, by omega⟩
      simp only [hd, List.getElem_cons_succ]
      intro hh
      exact hQ (hh ▸ List.getElem_mem _)
theorem fold_set (x : Int) : ∀ (C : List Int) (p : List Int), (∀ c ∈ C, 0 ≤ c ∧ c < (p.length : Int)) → (C.foldl (fun p k => p.set k.toNat x) p).length = p.length ∧ ∀ v : Int, 0 ≤ v → rd (C.foldl (fun p k => p.set k.toNat x) p) v = if v ∈ C then x else rd p v := by
  intro C
  induction C with
  | nil => intro p _; exact ⟨rfl, fun v _ => by simp⟩
  | cons c C ih =>
    intro p hp
    have hc := hp c (by simp)
    obtain ⟨h1, h2⟩ := ih (p.set c.toNat x) (fun d hd => by rw [List.length_set]; exact hp d (List.mem_cons_of_mem _ hd))
    rw [List.foldl_cons]
    refine ⟨by rw [h1, List.length_set], fun v hv => ?_⟩
    rw [h2 v hv, rd_set hc.1 hc.2 hv]
    by_cases e1 : v ∈ C
    · rw [if_pos e1, if_pos (List.mem_cons_of_mem _ e1)]
    · rw [if_neg e1]
      by_cases e2 : v = c
      · rw [if_pos e2, if_pos (by rw [e2]; simp)]
      · rw [if_neg e2, if_neg (by simp [e1, e2])]
theorem fold_mn : ∀ (C : List Int) (a : Int), C.foldl mn a ≤ a ∧ (∀ c ∈ C, C.foldl mn a ≤ c) ∧ (C.foldl mn a = a ∨ C.foldl mn a ∈ C) := by
  intro C
  induction C with
  | nil => intro a; exact ⟨Int.le_refl _, by simp, .inl rfl⟩
  | cons c C ih =>
    intro a
    obtain ⟨h1, h2, h3⟩ := ih (mn a c)
    have hm : mn a c ≤ a ∧ mn a c ≤ c := by unfold mn; split <;> omega
    have hmo : mn a c = a ∨ mn a c = c := by unfold mn; split <;> simp
    rw [List.foldl_cons]
    refine ⟨by omega, fun d hd => ?_, ?_⟩
    · rcases List.mem_cons.1 hd with rfl | hd
      · omega
      · exact h2 d hd
    · rcases h3 with h3 | h3
      · rcases hmo with e | e
        · exact .inl (h3.trans e)
        · exact .inr (by rw [h3, e]; simp)
      · exact .inr (List.mem_cons_of_mem _ h3)
theorem TI.done (g : Gr n nx) (h : TI n nx st X) {v w : Int} (hr : Rch nx v w) (v0 : 0 ≤ v) (v1 : v < n) (hv : 0 ≤ rd st.part v) : 0 ≤ rd st.part w := by
  induction hr with
  | refl => exact hv
  | tail hb hc ih => exact h.d1 _ (hb.rng g v0 v1).1 (hb.rng g v0 v1).2 ih _ hc
theorem TI.pop (g : Gr n nx) (h : TI n nx st NoX) {ys : List Fr} {a j : Int} (hc : st.calls = ys ++ [⟨a, j⟩]) (hj : j = ((rd_L1 nx a).length : Int)) (hlow : rd st.low a = rd st.order a) :
    ∃ P Q, st.opn = P ++ a :: Q ∧ a ∉ Q ∧ TI n nx (search_leave.comp (search_leave.lp ys st a) a P.length) NoX := by
  have L := h.lv hc hj
  have hca : (⟨a, j⟩ : Fr) ∈ st.calls := by rw [hc]; simp
  obtain ⟨P, Q, hPQ⟩ := List.append_of_mem L.ao
  have hos := h.os
  rw [hPQ, List.pairwise_append, List.pairwise_cons] at hos
  have hQa : a ∉ Q := fun hh => by have := hos.2.1.1 a hh; omega
  have ar := h.rg L.ao
  have hPm : ∀ v, v ∈ P ↔ v ∈ st.opn ∧ rd st.order v < rd st.order a := by
    intro v
    rw [hPQ]
    constructor
    · intro hh
      exact ⟨List.mem_append_left _ hh, hos.2.2 v hh a (by simp)⟩
    · rintro ⟨h1, h2⟩
      rcases List.mem_append.1 h1 with h1 | h1
      · exact h1
      · rcases List.mem_cons.1 h1 with rfl | h1
        · omega
        · have := hos.2.1.1 v h1
          omega
  have hCm : ∀ v, v ∈ a :: Q ↔ v ∈ st.opn ∧ rd st.order a ≤ rd st.order v := by
    intro v
    constructor
    · intro hh
      refine ⟨by rw [hPQ]; exact List.mem_append_right _ hh, ?_⟩
      rcases List.mem_cons.1 hh with rfl | hh
      · exact Int.le_refl _
      · exact Int.le_of_lt (hos.2.1.1 v hh)
    · rintro ⟨h1, h2⟩
      rw [hPQ] at h1
      rcases List.mem_append.1 h1 with h1 | h1
      · have := hos.2.2 v h1 a (by simp)
        omega
      · exact h1
  have mutu : ∀ u, u ∈ a :: Q → Rch nx a u ∧ Rch nx u a := by
    intro u hu
    obtain ⟨h1, h2⟩ := (hCm u).1 hu
    refine ⟨h.i1 u h1 ⟨a, j⟩ hca h2, ?_⟩
    obtain ⟨c, hh, h3, h4⟩ := h.i2 u h1
    exact h4.trans (h.i1 a L.ao c hh (L.top c hh))
  have clos : ∀ u, u ∈ a :: Q → ∀ w ∈ rd_L1 nx u, w ∈ a :: Q ∨ 0 ≤ rd st.part w := by
    intro u hu w hw
    obtain ⟨h1, h2⟩ := (hCm u).1 hu
    have hwr := g.ok u (h.rg h1).1 (h.rg h1).2 w hw
    have he : EP nx st.calls u w := by
      refine L.ep u w ⟨hw, fun c hh hf => ?_⟩
      have := L.lt c hh
      rw [hf] at this
      omega
    have hv := (h.p1 u w h1 he).resolve_left id
    rcases h.pn w hwr.1 hwr.2 with hp | hp
    · have hwo : w ∈ st.opn := (h.op w).2 ⟨hwr.1, hwr.2, hv, hp⟩
      have := (h.i4 u w h1 hwo he ⟨a, j⟩ hca h2 (fun d hd _ => L.top d hd)).resolve_left id
      simp only at this
      exact .inl ((hCm w).2 ⟨hwo, by omega⟩)
    · exact .inr hp
  refine ⟨P, Q, hPQ, hQa, ?_⟩
  have hdrop : st.opn.drop P.length = a :: Q := by rw [hPQ, List.drop_left' rfl]
  have htake : st.opn.take P.length = P := by rw [hPQ, List.take_left' rfl]
  have hcomp : search_leave.comp (search_leave.lp ys st a) a P.length = { order := st.order, low := search_leave.low ys st a, part := (a :: Q).foldl (fun p k => p.set k.toNat ((a :: Q).foldl mn a)) st.part, opn := P, calls := ys, met := st.met } := by
    show ({ order := st.order, low := search_leave.low ys st a, part := (st.opn.drop P.length).foldl (fun p k => p.set k.toNat ((st.opn.drop P.length).foldl mn a)) st.part, opn := st.opn.take P.length, calls := ys, met := st.met } : SrSt) = _
    rw [hdrop, htake]
  rw [hcomp]
  obtain ⟨m1, m2, m3⟩ := fold_mn (a :: Q) a
  generalize hle : (a :: Q).foldl mn a = least at m1 m2 m3
  have hlC : least ∈ a :: Q := by
    rcases m3 with e | e
    · rw [e]; simp
    · exact e
  obtain ⟨f1, f2⟩ := fold_set least (a :: Q) st.part (fun c hh => by
    have := h.rg ((hCm c).1 hh).1
    rw [h.lp]
    exact this)
  generalize (a :: Q).foldl (fun p k => p.set k.toNat least) st.part = np at f1 f2
  have lr := h.rg ((hCm least).1 hlC).1
  have inC : ∀ v, v ∈ a :: Q → rd np v = least := fun v hv => by rw [f2 v (h.rg ((hCm v).1 hv).1).1, if_pos hv]
  have outC : ∀ v : Int, 0 ≤ v → v ∉ a :: Q → rd np v = rd st.part v := fun v v0 hv => by rw [f2 v v0, if_neg hv]
  have dn : ∀ v : Int, 0 ≤ v → v < n → (0 ≤ rd np v ↔ v ∈ a :: Q ∨ 0 ≤ rd st.part v) := by
    intro v v0 v1
    by_cases e : v ∈ a :: Q
    · rw [inC v e]
      exact ⟨fun _ => .inl e, fun _ => lr.1⟩
    · rw [outC v v0 e]
      exact ⟨.inr, fun hh => hh.resolve_left e⟩
  have oldn : ∀ v, v ∈ a :: Q → rd st.part v = -1 := fun v hv => ((h.op v).1 ((hCm v).1 hv).1).2.2.2
  have oldo : ∀ v : Int, 0 ≤ rd st.part v → v ∉ a :: Q := fun v hv e => by have := oldn v e; omega
  have hyo : ∀ c ∈ ys, c.f0 ∈ P := fun c hh => (hPm c.f0).2 ⟨(h.cm c (L.sub c hh)).1, L.lt c hh⟩
  have hPo : ∀ v, v ∈ P → v ∈ st.opn := fun v hv => ((hPm v).1 hv).1
  have lowy : ∀ c ∈ ys, rd (search_leave.low ys st a) c.f0 = rd st.low c.f0 := by
    intro c hh
    rcases G.snoc_cases ys with rfl | ⟨zs, p, rfl⟩
    · exact absurd hh (by simp)
    · have hpc := L.sub p (by simp)
      have h5 := h.i5 p hpc
      have hlt := L.lt p (by simp)
      rw [low_snoc, rd_set (h.crg hpc).1 (by rw [h.ll]; exact (h.crg hpc).2) (h.crg (L.sub c hh)).1]
      split
      · rename_i e
        rw [e]
        unfold mn
        rw [if_neg (by omega)]
      · rfl
  have hcs := h.cs
  rw [hc, List.pairwise_append] at hcs
  refine ⟨h.lo, by simp only; rw [search_leave.low_len]; exact h.ll, by simp only; rw [f1]; exact h.lp, h.m0, h.mc, h.ob, ?_, ?_, ?_, hos.1, ?_, hcs.1, ?_, ?_, ?_, ?_, ?_, ?_, ?_, ?_, ?_⟩
  · intro v v0 v1 hz
    simp only at hz ⊢
    rw [outC v v0 fun e => ?_]
    · exact h.un v v0 v1 hz
    · have := ((h.op v).1 ((hCm v).1 e).1).2.2.1
      omega
  · intro v v0 v1
    simp only
    by_cases e : v ∈ a :: Q
    · rw [inC v e]
      exact .inr lr.1
    · rw [outC v v0 e]
      exact h.pn v v0 v1
  · intro v
    simp only
    rw [hPm v]
    constructor
    · rintro ⟨h1, h2⟩
      obtain ⟨q1, q2, q3, q4⟩ := (h.op v).1 h1
      refine ⟨q1, q2, q3, ?_⟩
      rw [outC v q1 fun e => ?_]
      · exact q4
      · have := ((hCm v).1 e).2
        omega
    · rintro ⟨q1, q2, q3, q4⟩
      have e : v ∉ a :: Q := fun e => by rw [inC v e] at q4; omega
      rw [outC v q1 e] at q4
      have hv := (h.op v).2 ⟨q1, q2, q3, q4⟩
      refine ⟨hv, ?_⟩
      have := mt (fun hh => (hCm v).2 ⟨hv, hh⟩) e
      omega
  · intro c hh
    exact ⟨hyo c hh, (h.cm c (L.sub c hh)).2⟩
  · intro v w hv he
    exact h.p1 v w (hPo v hv) (L.ep v w he)
  · intro u hu c hh hle2
    exact h.i1 u (hPo u hu) c (L.sub c hh) hle2
  · intro u hu
    simp only at hu ⊢
    obtain ⟨c, hh, h1, h2⟩ := h.i2 u (hPo u hu)
    have h3 := ((hPm u).1 hu).2
    rcases L.or c hh with e | e
    · exact ⟨c, e, h1, h2⟩
    · rw [e] at h1
      omega
  · intro u w hu hw he c hh hl2 how
    right
    simp only at hu hw hh hl2 how ⊢
    rw [lowy c hh]
    have h3 := ((hPm u).1 hu).2
    exact (h.i4 u w (hPo u hu) (hPo w hw) (L.ep u w he) c (L.sub c hh) hl2 (fun d hd hdu => by
      rcases L.or d hd with e | e
      · exact how d e hdu
      · rw [e] at hdu
        omega)).resolve_left id
  · intro c hh
    simp only at hh ⊢
    rw [lowy c hh]
    exact h.i5 c (L.sub c hh)
  · intro c hh
    simp only at hh ⊢
    rw [lowy c hh]
    obtain ⟨w, hw, h1, h2⟩ := h.i6 c (L.sub c hh)
    have h5 := h.i5 c (L.sub c hh)
    have hlt := L.lt c hh
    exact ⟨w, (hPm w).2 ⟨hw, by omega⟩, h1, h2⟩
  · intro v v0 v1 hv w hw
    simp only at hv ⊢
    have hwr := g.ok v v0 v1 w hw
    rw [dn w hwr.1 hwr.2]
    rcases (dn v v0 v1).1 hv with e | e
    · exact clos v e w hw
    · exact .inr (h.d1 v v0 v1 e w hw)
  · intro v v0 v1 hv
    simp only at hv ⊢
    rcases (dn v v0 v1).1 hv with e | e
    · rw [inC v e, inC least hlC]
      have h1 := mutu v e
      have h2 := mutu least hlC
      exact ⟨m2 v e, rfl, h1.2.trans h2.1, h2.2.trans h1.1⟩
    · rw [outC v v0 (oldo v e)]
      obtain ⟨q1, q2, q3, q4⟩ := h.d2 v v0 v1 e
      rw [outC _ e (oldo _ (by rw [q2]; exact e))]
      exact ⟨q1, q2, q3, q4⟩
  · intro u w u0 u1 w0 w1 hu hw huw hwu
    simp only at hu hw ⊢
    rcases (dn u u0 u1).1 hu with e | e
    · rcases (dn w w0 w1).1 hw with e2 | e2
      · rw [inC u e, inC w e2]
      · have := h.done g hwu w0 w1 e2
        have := oldn u e
        omega
    · rcases (dn w w0 w1).1 hw with e2 | e2
      · have := h.done g huw u0 u1 e
        have := oldn w e2
        omega
      · rw [outC u u0 (oldo u e), outC w w0 (oldo w e2)]
        exact h.d3 u w u0 u1 w0 w1 e e2 huw hwu
end
end Go.Proofs.Ytpkigkmkolbiiaa.Q
end
