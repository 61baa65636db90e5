-- PACKED by pack.py of this repo: QLasso
import Derived.Test.YtpkigkmkolbiiaaK19
section
namespace Go.Proofs.Ytpkigkmkolbiiaa.Q
open Go.RowKit Go.Proofs.YtpkigkmkolbiiaaW.PrintWords Go.Proofs.YtpkigkmkolbiiaaW.PrintMore Go.Proofs.Ytpkigkmkolbiiaa.P
set_option linter.unusedVariables false
def lst : Int → List Int → Int
  | a, [] => a
  | _, b :: l => lst b l
theorem lst_append : ∀ (a : Int) (l m : List Int), lst a (l ++ m) = lst (lst a l) m
  | _, [], _ => rfl
  | _, b :: l, m => lst_append b l m
theorem lst_get : ∀ (a : Int) (l : List Int), (a :: l).getLast? = some (lst a l)
  | _, [] => rfl
  | a, b :: l => by rw [List.getLast?_cons_cons]; exact lst_get b l
theorem lst_drop : ∀ (a : Int) (l : List Int), (a :: l).dropLast ++ [lst a l] = a :: l
  | _, [] => rfl
  | a, b :: l => by
    show a :: ((b :: l).dropLast ++ [lst b l]) = _
    rw [lst_drop b l]
theorem lst_mem : ∀ (a : Int) (l : List Int), lst a l ∈ a :: l
  | _, [] => List.mem_cons_self
  | a, b :: l => List.mem_cons_of_mem _ (lst_mem b l)
theorem lst_rd (a : Int) (l : List Int) : rd (a :: l) (((a :: l).length - 1 : Nat) : Int) = lst a l := by
  have h := lst_get a l
  rw [List.getLast?_eq_getElem?] at h
  unfold rd
  rw [Int.toNat_natCast, List.getD_eq_getElem?_getD, h]
  rfl
theorem chain_append {nx : List (List Int)} : ∀ (a : Int) (l m : List Int), Chain nx a (l ++ m) ↔ Chain nx a l ∧ Chain nx (lst a l) m
  | _, [], _ => ⟨fun h => ⟨trivial, h⟩, fun h => h.2⟩
  | a, b :: l, m => by
    show (b ∈ rd_L1 nx a ∧ Chain nx b (l ++ m)) ↔ (b ∈ rd_L1 nx a ∧ Chain nx b l) ∧ Chain nx (lst b l) m
    rw [chain_append b l m, and_assoc]
theorem chain_rng {n : Nat} {nx : List (List Int)} (g : Gr n nx) : ∀ (a : Int) (l : List Int), 0 ≤ a → a < n → Chain nx a l → ∀ i ∈ l, 0 ≤ i ∧ i < (n : Int)
  | _, [], _, _, _ => fun _ h => by cases h
  | a, b :: l, a0, a1, h => fun i hi => by
    obtain ⟨b0, b1⟩ := g.ok a a0 a1 b h.1
    rcases List.mem_cons.1 hi with rfl | hi
    · exact ⟨b0, b1⟩
    · exact chain_rng g b l b0 b1 h.2 i hi
set_option maxRecDepth 100000 in
theorem and_bit {N b : Nat} (hN : N < 64) (hb : b < 7) : Go.bits .and .i64 (shr .i64 (N : Int) (b : Int)) 1 = if N.testBit b then 1 else 0 := by
  have h : ∀ x : Fin 64, ∀ y : Fin 7, Go.bits .and .i64 (shr .i64 ((x.val : Nat) : Int) ((y.val : Nat) : Int)) 1 = if x.val.testBit y.val then 1 else 0 := by decide +kernel
  exact h ⟨N, hN⟩ ⟨b, hb⟩
structure Las (n : Nat) (nx : List (List Int)) (f : Int) (ms : List Int) (many home : Int) (stem loop : List Int) : Prop where
  run : ∃ s tt, stem ++ loop = s :: tt ∧ (0 ≤ s ∧ s < f) ∧ Chain nx s (tt ++ [home])
  lp : ∃ lt, loop = home :: lt
  sets : ∀ b : Nat, (b : Int) < many → ∃ u ∈ loop, bitOf ms u b
  inn : ∀ u ∈ stem ++ loop, 0 ≤ u ∧ u < (n : Int)
  len : stem.length + loop.length ≤ 1000000
section
variable {n : Nat} {sp : List S45} {f : Int} {nx : List (List Int)} {ms : List Int} {many home : Int} {part : List Int}
theorem or_fold (g : Gs n sp f nx ms many) : ∀ (l : List Int) (N : Nat), N < 2 ^ many.toNat → (∀ i ∈ l, 0 ≤ i ∧ i < (n : Int)) →
    ∃ N' : Nat, l.foldl (fun s i => Go.bits .or .i64 s (rd ms i)) (N : Int) = (N' : Int) ∧ N' < 2 ^ many.toNat ∧ ∀ b, N'.testBit b = true ↔ N.testBit b = true ∨ ∃ u ∈ l, bitOf ms u b
  | [], N, hN, _ => ⟨N, rfl, hN, fun b => by simp⟩
  | i :: l, N, hN, h => by
    obtain ⟨i0, i1⟩ := h i List.mem_cons_self
    have hm := g.mr i i0 i1
    have := g.m1
    rw [shl_pow g.m0 g.m1] at hm
    have h64 := pow_le (m := many.toNat) (by omega)
    have em : rd ms i = (((rd ms i).toNat : Nat) : Int) := by omega
    obtain ⟨N', e, hl, hb⟩ := or_fold g l (N ||| (rd ms i).toNat) (or_lt hN (by omega)) (fun j hj => h j (List.mem_cons_of_mem _ hj))
    refine ⟨N', ?_, hl, fun b => ?_⟩
    · rw [List.foldl_cons, ← e]
      congr 1
      rw [em, or_nat _ _ (by omega) (by omega), ← em]
    · rw [hb b, Nat.testBit_or, Bool.or_eq_true]
      constructor
      · rintro ((a | a) | ⟨u, hu, a⟩)
        · exact .inl a
        · exact .inr ⟨i, List.mem_cons_self, a⟩
        · exact .inr ⟨u, List.mem_cons_of_mem _ hu, a⟩
      · rintro (a | ⟨u, hu, a⟩)
        · exact .inl (.inl a)
        · rcases List.mem_cons.1 hu with rfl | hu
          · exact .inl (.inr a)
          · exact .inr ⟨u, hu, a⟩
theorem hasB_is (g : Gs n sp f nx ms many) {u : Int} (u0 : 0 ≤ u) (u1 : u < n) {b : Nat} (hb : (b : Int) < many) : scc_Lasso.hasB ms b u = true ↔ bitOf ms u b := by
  have hm := g.mr u u0 u1
  have := g.m1
  rw [shl_pow g.m0 g.m1] at hm
  have h64 := pow_le (m := many.toNat) (by omega)
  have em : rd ms u = (((rd ms u).toNat : Nat) : Int) := by omega
  unfold scc_Lasso.hasB bitOf
  rw [em, and_bit (by omega) (by omega), ← em]
  split
  · rename_i h
    simp [h]
  · rename_i h
    simp [h]
theorem part_in (g : Gs n sp f nx ms many) (T : Pt n nx part) {a b : Int} (a0 : 0 ≤ a) (a1 : a < n) (ha : rd part a = home) (hab : Rch nx a b) (hba : Rch nx b a) : RchIn nx (scc_Lasso.inP part home) a b := by
  have key : ∀ c, Rch nx a c → Rch nx c b → RchIn nx (scc_Lasso.inP part home) a c := by
    intro c h
    induction h with
    | refl => intro _; exact RchIn.refl _
    | @tail p c hp hc ih =>
      intro hcb
      have hpc : Rch nx p c := (Rch.refl p).tail hc
      have hac : Rch nx a c := hp.tail hc
      have hr := hac.rng g.gr a0 a1
      refine (ih (hpc.trans hcb)).tail hc ?_
      unfold scc_Lasso.inP
      rw [beq_iff_eq, ← ha]
      exact (T.iff c a hr.1 hr.2 a0 a1).2 ⟨hcb.trans hba, hac⟩
  exact key b hab (Rch.refl _)
structure Hm (n : Nat) (nx : List (List Int)) (f : Int) (ms : List Int) (many : Int) (part : List Int) (home : Int) : Prop where
  h0 : 0 ≤ home
  h1 : home < (n : Int)
  own : rd part home = home
  on : ∀ u : Int, 0 ≤ u → u < n → rd part u = home → ∃ k ∈ rd_L1 nx u, rd part k = home
  sets : ∀ b : Nat, (b : Int) < many → ∃ u, (0 ≤ u ∧ u < (n : Int)) ∧ rd part u = home ∧ bitOf ms u b
  seen : Seen nx f home
theorem Hm.of (g : Gs n sp f nx ms many) (T : Pt n nx part) (h0 : 0 ≤ home) (h1 : home < (n : Int)) (h : FairAt n nx ms many part home) (hs : Seen nx f home) : Hm n nx f ms many part home := by
  refine ⟨h0, h1, h.own, fun u u0 u1 hu => ?_, h.sets, hs⟩
  obtain ⟨v, ⟨v0, v1⟩, hv, k, hk, hp⟩ := h.loop
  have hkr := g.gr.ok v v0 v1 k hk
  have huv := (T.iff u v u0 u1 v0 v1).1 (by rw [hu, hv])
  have huk := (T.iff u k u0 u1 hkr.1 hkr.2).1 (by rw [hu, hp])
  obtain ⟨c, hc, hr⟩ := rch_loop g.gr u0 u1 huv.1 hk huk.2
  have hcr := g.gr.ok u u0 u1 c hc
  exact ⟨c, hc, by rw [← hu]; exact (T.iff c u hcr.1 hcr.2 u0 u1).2 ⟨hr, (Rch.refl u).tail hc⟩⟩
theorem inside_is (g : Gs n sp f nx ms many) (T : Pt n nx part) (H : Hm n nx f ms many part home) (wanted : Int → Bool) {a u : Int} (a0 : 0 ≤ a) (a1 : a < n) (ha : rd part a = home) (u0 : 0 ≤ u) (u1 : u < n) (hu : rd part u = home) (hw : wanted u = true) :
    ∃ t, Ev (fun d => Way.way nx (scc_Lasso.inP part home) wanted d [a]) (a :: t) ∧ Chain nx a t ∧ (∀ i ∈ t, rd part i = home) ∧ t.length ≤ n ∧ wanted (lst a t) = true := by
  obtain ⟨r, hr, h⟩ := way_is (ins := scc_Lasso.inP part home) (wanted := wanted) (fr := [a]) g.gr (by simp) (fun x hx => by
    obtain rfl := List.mem_singleton.1 hx
    exact ⟨a0, a1⟩)
  rcases h with ⟨_, h⟩ | ⟨s, t, rfl, h1, h2, h3, h4, z, h5, h6⟩
  · have hau := (T.iff a u a0 a1 u0 u1).1 (by rw [ha, hu])
    have := h a List.mem_cons_self u (part_in g T a0 a1 ha hau.1 hau.2)
    rw [hw] at this
    exact absurd this (by simp)
  · obtain rfl := List.mem_singleton.1 h1
    rw [lst_get] at h5
    rw [List.length_cons] at h4
    refine ⟨t, hr, h2, fun i hi => ?_, by omega, by rw [show lst s t = z by injection h5]; exact h6⟩
    have := h3 i hi
    unfold scc_Lasso.inP at this
    exact beq_iff_eq.1 this
theorem bits_is (g : Gs n sp f nx ms many) (T : Pt n nx part) (H : Hm n nx f ms many part home) : ∀ (m bit : Nat) (t : List Int) (N : Nat), (bit : Int) + m = many → N < 2 ^ many.toNat → (∀ b, N.testBit b = true ↔ ∃ u ∈ home :: t, bitOf ms u b) →
    Chain nx home t → (∀ i ∈ t, rd part i = home) → t.length ≤ bit * 20000 → (∀ b, b < bit → ∃ u ∈ home :: t, bitOf ms u b) →
    ∃ t', Ev (fun d => scc_Lasso.bits nx ms part home d m (bit : Int) (N : Int) (home :: t) (lst home t)) (home :: t', lst home t') ∧ Chain nx home t' ∧ (∀ i ∈ t', rd part i = home) ∧ t'.length ≤ 120000 ∧ ∀ b : Nat, (b : Int) < many → ∃ u ∈ home :: t', bitOf ms u b := by
  have hn := g.gr.le
  have hm0 := g.m0
  have hm1 := g.m1
  have h64 := pow_le (m := many.toNat) (by omega)
  have hml := g.ml
  intro m
  induction m with
  | zero =>
    intro bit t N hb hN hNb hc hp hl hs
    exact ⟨t, Ev.now _, hc, hp, by omega, fun b hb' => hs b (by omega)⟩
  | succ m ih =>
    intro bit t N hb hN hNb hc hp hl hs
    have hrng := chain_rng g.gr home t H.h0 H.h1 hc
    have hab := and_bit (N := N) (b := bit) (by omega) (by omega)
    have hat := lst_mem home t
    have hatr : 0 ≤ lst home t ∧ lst home t < (n : Int) := by
      rcases List.mem_cons.1 hat with h | h
      · rw [h]; exact ⟨H.h0, H.h1⟩
      · exact hrng _ h
    have hatp : rd part (lst home t) = home := by
      rcases List.mem_cons.1 hat with h | h
      · rw [h]; exact H.own
      · exact hp _ h
    by_cases c : N.testBit bit = true
    · rw [if_pos c] at hab
      obtain ⟨t', e, h⟩ := ih (bit + 1) t N (by omega) hN hNb hc hp (Nat.le_trans hl (Nat.mul_le_mul_right _ (Nat.le_succ _))) (fun b hb' => by
        by_cases hbb : b = bit
        · rw [hbb]; exact (hNb bit).1 c
        · exact hs b (by omega))
      refine ⟨t', ?_, h⟩
      obtain ⟨K, hK⟩ := e
      exact ⟨K, fun d hd => by
        have := hK d hd
        simp only [scc_Lasso.bits, hab, if_true]
        exact this⟩
    · rw [if_neg c] at hab
      obtain ⟨u, ⟨u0, u1⟩, hu, hub⟩ := H.sets bit (by omega)
      obtain ⟨l, he, hlc, hlp, hll, hlw⟩ := inside_is g T H (scc_Lasso.hasB ms bit) hatr.1 hatr.2 hatp u0 u1 hu ((hasB_is g u0 u1 (by omega)).2 hub)
      have hlr := chain_rng g.gr _ l hatr.1 hatr.2 hlc
      obtain ⟨N', eN, hN', hNb'⟩ := or_fold g l N hN hlr
      have hlast : lst home (t ++ l) = lst (lst home t) l := lst_append _ _ _
      have hlm := lst_mem (lst home t) l
      have hlr2 : 0 ≤ lst (lst home t) l ∧ lst (lst home t) l < (n : Int) := by
        rcases List.mem_cons.1 hlm with h | h
        · rw [h]; exact hatr
        · exact hlr _ h
      have hbit : ∃ u ∈ home :: (t ++ l), bitOf ms u bit := ⟨lst (lst home t) l, by rw [← hlast]; exact lst_mem _ _, (hasB_is g hlr2.1 hlr2.2 (by omega)).1 hlw⟩
      obtain ⟨t', e, h⟩ := ih (bit + 1) (t ++ l) N' (by omega) hN' (fun b => by
          rw [hNb' b, hNb b]
          constructor
          · rintro (⟨u, hu, a⟩ | ⟨u, hu, a⟩)
            · refine ⟨u, ?_, a⟩
              rcases List.mem_cons.1 hu with rfl | hu
              · exact List.mem_cons_self
              · exact List.mem_cons_of_mem _ (List.mem_append_left _ hu)
            · exact ⟨u, List.mem_cons_of_mem _ (List.mem_append_right _ hu), a⟩
          · rintro ⟨u, hu, a⟩
            rcases List.mem_cons.1 hu with rfl | hu
            · exact .inl ⟨u, List.mem_cons_self, a⟩
            · rcases List.mem_append.1 hu with hu | hu
              · exact .inl ⟨u, List.mem_cons_of_mem _ hu, a⟩
              · exact .inr ⟨u, hu, a⟩) ((chain_append _ _ _).2 ⟨hc, hlc⟩) (fun i hi => by
          rcases List.mem_append.1 hi with hi | hi
          · exact hp i hi
          · exact hlp i hi) (by rw [List.length_append]; omega) (fun b hb' => by
          by_cases hbb : b = bit
          · rw [hbb]; exact hbit
          · obtain ⟨u, hu, a⟩ := hs b (by omega)
            refine ⟨u, ?_, a⟩
            rcases List.mem_cons.1 hu with rfl | hu
            · exact List.mem_cons_self
            · exact List.mem_cons_of_mem _ (List.mem_append_left _ hu))
      refine ⟨t', ?_, h⟩
      obtain ⟨K, hK⟩ := e
      obtain ⟨K2, hK2⟩ := he
      refine ⟨max K K2, fun d hd => ?_⟩
      have h1 := hK d (by omega)
      have h2 := hK2 d (by omega)
      simp only [] at h1 h2
      simp only [scc_Lasso.bits, hab, show ¬ ((0 : Int) = 1) by decide, if_false, h2, Option.bind_some, List.drop_succ_cons, List.drop_zero, List.cons_append]
      have hcond : 1 ≤ (lst home t :: l).length ∧ (lst home t :: l).length + (home :: t).length ≤ 1000000000 ∧ ∀ i ∈ l, 0 ≤ i ∧ i < (ms.length : Int) := ⟨by simp, by simp only [List.length_cons]; omega, fun i hi => by rw [hml]; exact hlr i hi⟩
      rw [if_pos hcond, eN, lst_rd]
      exact h1
theorem wback_is (g : Gs n sp f nx ms many) (T : Pt n nx part) (H : Hm n nx f ms many part home) (loop : List Int) (hl : loop.length ≤ 1000000) : ∀ (r : List Int), (∀ k ∈ r, 0 ≤ k ∧ k < (n : Int)) → (∃ k ∈ r, rd part k = home) →
    ∃ k t, k ∈ r ∧ Chain nx k t ∧ lst k t = home ∧ t.length ≤ n ∧ (∀ i ∈ k :: t, 0 ≤ i ∧ i < (n : Int)) ∧ Ev (fun d => scc_Lasso.back nx part home d loop r) (loop ++ (k :: t).dropLast) := by
  have hn := g.gr.le
  intro r
  induction r with
  | nil => rintro _ ⟨k, hk, _⟩; cases hk
  | cons k r ih =>
    intro hr hex
    obtain ⟨k0, k1⟩ := hr k List.mem_cons_self
    by_cases c : rd part k = home
    · obtain ⟨t, e, h1, h2, h3, h4⟩ := inside_is g T H (fun i => i == home) k0 k1 c H.h0 H.h1 H.own (by simp)
      have hrng := chain_rng g.gr k t k0 k1 h1
      refine ⟨k, t, List.mem_cons_self, h1, by simpa using h4, h3, fun i hi => ?_, ?_⟩
      · rcases List.mem_cons.1 hi with rfl | hi
        · exact ⟨k0, k1⟩
        · exact hrng i hi
      · obtain ⟨K, hK⟩ := e
        refine ⟨K, fun d hd => ?_⟩
        have h := hK d hd
        simp only [] at h
        have hc : scc_Lasso.inP part home k = true := by unfold scc_Lasso.inP; rw [beq_iff_eq]; exact c
        have hcond : 1 ≤ (k :: t).length ∧ (k :: t).length + loop.length ≤ 2000000000 := ⟨by simp, by simp only [List.length_cons]; omega⟩
        simp only [scc_Lasso.back]
        rw [if_pos ⟨k0, by rw [g.gr.len]; exact k1⟩, if_pos hc, h, Option.bind_some, if_pos hcond]
    · obtain ⟨k', t, a, b⟩ := ih (fun k hk => hr k (List.mem_cons_of_mem _ hk)) (by
        obtain ⟨k', hk', e⟩ := hex
        rcases List.mem_cons.1 hk' with rfl | hk'
        · exact absurd e c
        · exact ⟨k', hk', e⟩)
      obtain ⟨b1, b2, b3, b4, K, hK⟩ := b
      refine ⟨k', t, List.mem_cons_of_mem _ a, b1, b2, b3, b4, K, fun d hd => ?_⟩
      have h := hK d hd
      simp only [] at h
      have hc : ¬ scc_Lasso.inP part home k = true := by unfold scc_Lasso.inP; rw [beq_iff_eq]; exact c
      simp only [scc_Lasso.back]
      rw [if_pos ⟨k0, by rw [g.gr.len]; exact k1⟩, if_neg hc]
      exact h
theorem rch_true {nx : List (List Int)} {a b : Int} (h : Rch nx a b) : RchIn nx (fun _ => true) a b := by
  induction h with
  | refl => exact RchIn.refl _
  | tail _ hc ih => exact ih.tail hc rfl
theorem range_nodup (m : Nat) : ((List.range m).map Int.ofNat).Nodup := by
  have h : (List.range m).Nodup := List.nodup_range
  rw [List.Nodup, List.pairwise_map]
  exact h.imp (fun hne e => hne (by injection e))
theorem Lasso_sem (g : Gs n sp f nx ms many) (hrow : ∀ l ∈ nx, l.length ≤ 1000000) :
    (∃ home stem loop, Ev (fun k => scc_Lasso.f k sp f nx ms many) (stem, loop, 0) ∧ Ev (fun k => scc_Fair.f k sp f nx ms many) (home, 0) ∧ Las n nx f ms many home stem loop) ∨
    (Ev (fun k => scc_Lasso.f k sp f nx ms many) ([], [], 11) ∧ Ev (fun k => scc_Fair.f k sp f nx ms many) (0, 11) ∧ ∀ j : Int, ¬ GF n nx f ms many j) := by
  have hn := g.gr.le
  have hnl := g.gr.len
  have hml := g.ml
  have hf0 := g.f0
  have hf1 := g.f1
  have hm0 := g.m0
  have hm1 := g.m1
  obtain ⟨part, hp, T⟩ := parts_is g (fun l hl => by have := hrow l hl; omega)
  rcases Fair_is g T hp with ⟨home, e, h0, h1, hfa, hse, _⟩ | ⟨e, hno⟩
  · have H := Hm.of g T h0 h1 hfa hse
    have hsets0 : 0 ≤ rd ms home ∧ rd ms home < ((2 ^ many.toNat : Nat) : Int) := by
      have := g.mr home h0 h1
      rw [shl_pow hm0 hm1] at this
      exact this
    obtain ⟨s0, hs0, hsr⟩ := hse
    obtain ⟨stem, hstem, hst⟩ := way_is (ins := fun _ => true) (wanted := fun i => i == home) (fr := (List.range f.toNat).map Int.ofNat) g.gr (range_nodup _) (fun x hx => by
      obtain ⟨j, hj, rfl⟩ := List.mem_map.1 hx
      rw [List.mem_range] at hj
      show (0 : Int) ≤ (j : Int) ∧ (j : Int) < (n : Int)
      omega)
    rcases hst with ⟨_, h⟩ | ⟨s, t0, rfl, hsf, hc0, _, hl0, z, hz, hzw⟩
    · have := h s0 (List.mem_map.2 ⟨s0.toNat, by rw [List.mem_range]; omega, by show ((s0.toNat : Nat) : Int) = s0; omega⟩) home (rch_true hsr)
      simp at this
    · have hz2 : lst s t0 = home := by
        rw [lst_get] at hz
        injection hz with hz
        rw [hz]
        simpa using hzw
      have hsr : 0 ≤ s ∧ s < f := by
        obtain ⟨j, hj, e2⟩ := List.mem_map.1 hsf
        rw [List.mem_range] at hj
        have : (j : Int) = s := e2
        omega
      obtain ⟨t1, hb, hc1, hp1, hl1, hs1⟩ := bits_is g T H many.toNat 0 [] (rd ms home).toNat (by omega) (by omega) (fun b => by
        constructor
        · intro h; exact ⟨home, List.mem_cons_self, h⟩
        · rintro ⟨u, hu, h⟩
          obtain rfl := List.mem_singleton.1 hu
          exact h) trivial (fun _ h => by cases h) (by simp) (fun b hb => by omega)
      rw [show (((rd ms home).toNat : Nat) : Int) = rd ms home by omega] at hb
      have hr1 := chain_rng g.gr home t1 h0 h1 hc1
      have hatm := lst_mem home t1
      have hatr : 0 ≤ lst home t1 ∧ lst home t1 < (n : Int) := by
        rcases List.mem_cons.1 hatm with h | h
        · rw [h]; exact ⟨h0, h1⟩
        · exact hr1 _ h
      have hatp : rd part (lst home t1) = home := by
        rcases List.mem_cons.1 hatm with h | h
        · rw [h]; exact H.own
        · exact hp1 _ h
      obtain ⟨k, t2, hk, hc2, hlast, hl2, hr2, hback⟩ := wback_is g T H (home :: t1) (by simp only [List.length_cons]; omega) (rd_L1 nx (lst home t1)) (fun k hk => g.gr.ok _ hatr.1 hatr.2 k hk) (H.on _ hatr.1 hatr.2 hatp)
      have hdl2 : (k :: t2).dropLast ++ [home] = k :: t2 := by have := lst_drop k t2; rwa [hlast] at this
      have hdl0 : (s :: t0).dropLast ++ [home] = s :: t0 := by have := lst_drop s t0; rwa [hz2] at this
      have hlen2 : (k :: t2).dropLast.length ≤ n := by rw [List.length_dropLast]; simpa using hl2
      have hlen0 : (s :: t0).dropLast.length ≤ n := by rw [List.length_dropLast]; omega
      have hsr0 := chain_rng g.gr s t0 hsr.1 (by omega) hc0
      refine .inl ⟨home, (s :: t0).dropLast, home :: t1 ++ (k :: t2).dropLast, ?_, e, ?_, ⟨t1 ++ (k :: t2).dropLast, rfl⟩, fun b hb => ?_, fun u hu => ?_, by simp only [List.length_append, List.length_cons] at hlen2 hlen0 ⊢; omega⟩
      · unfold scc_Lasso.f
        refine Ev.bind e ?_
        simp only [if_true]
        refine Ev.bind hp ?_
        unfold scc_Lasso.go
        have hcond : nx.length ≤ 1000000 ∧ (∀ y ∈ nx, y.length ≤ 1000000) ∧ part.length = nx.length ∧ ms.length = nx.length ∧ (0 ≤ home ∧ home < (nx.length : Int)) ∧ (0 ≤ f ∧ f ≤ 1000000) ∧ (0 ≤ many ∧ many ≤ 62) := ⟨by omega, hrow, by rw [T.len, hnl], by rw [hml, hnl], ⟨h0, by omega⟩, ⟨hf0, by omega⟩, hm0, by omega⟩
        simp only [if_pos hcond]
        refine Ev.bind hstem ?_
        refine Ev.bind hb ?_
        simp only [if_pos (show 0 ≤ lst home t1 ∧ lst home t1 < (nx.length : Int) by rw [hnl]; exact hatr)]
        refine Ev.bind hback ?_
        simp only [if_pos (show 1 ≤ (s :: t0).length by simp)]
        exact Ev.now _
      · have hall : (s :: t0).dropLast ++ (home :: t1 ++ (k :: t2).dropLast) ++ [home] = s :: (t0 ++ (t1 ++ (k :: t2))) := by
          have : (s :: t0).dropLast ++ (home :: t1 ++ (k :: t2).dropLast) ++ [home] = ((s :: t0).dropLast ++ [home]) ++ (t1 ++ ((k :: t2).dropLast ++ [home])) := by simp
          rw [this, hdl0, hdl2]
          rfl
        have hne : (s :: t0).dropLast ++ (home :: t1 ++ (k :: t2).dropLast) ≠ [] := by simp
        obtain ⟨x, tt, hx⟩ := List.exists_cons_of_ne_nil hne
        rw [hx, List.cons_append] at hall
        injection hall with e1 e2
        subst e1
        refine ⟨x, tt, hx, hsr, ?_⟩
        rw [e2, chain_append, hz2, chain_append]
        exact ⟨hc0, hc1, hk, hc2⟩
      · obtain ⟨u, hu, h⟩ := hs1 b hb
        exact ⟨u, List.mem_append_left _ hu, h⟩
      · rcases List.mem_append.1 hu with hu | hu
        · rcases List.mem_cons.1 (List.dropLast_subset _ hu) with rfl | hu
          · exact ⟨hsr.1, by omega⟩
          · exact hsr0 u hu
        · rcases List.mem_append.1 hu with hu | hu
          · rcases List.mem_cons.1 hu with rfl | hu
            · exact ⟨h0, h1⟩
            · exact hr1 u hu
          · exact hr2 u (List.dropLast_subset _ hu)
  · refine .inr ⟨?_, e, fun j hj => ?_⟩
    · unfold scc_Lasso.f
      refine Ev.bind e ?_
      simp only [show ¬ ((11 : Int) = 0) by decide, if_false]
      exact Ev.now _
    · obtain ⟨q1, q2⟩ := hj.fair g T
      exact hno _ (T.lo j hj.r0 hj.r1) (Int.lt_of_le_of_lt (T.hi j hj.r0 hj.r1) hj.r1) ⟨q1, q2⟩
end
end Go.Proofs.Ytpkigkmkolbiiaa.Q
end
