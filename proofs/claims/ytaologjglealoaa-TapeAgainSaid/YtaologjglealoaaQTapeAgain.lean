/- The plain law of TapeAgain: a tape that was repaired needs no repair, and a crash takes nothing that was synced. -/
import Derived.Test.YtaologjglealoaaLTapeAgain
import Derived.Test.YtaologjglealoaaQTape
namespace Go.Proofs.Ytaologjglealoaa.Q
open Go.RowKit Go.Proofs.YtaologjglealoaaW.PrintWords Go.Proofs.YtaologjglealoaaW.PrintMore Go.Proofs.Ytaologjglealoaa.P
set_option linter.unusedVariables false
theorem g4_take {l : List Int} {k : Nat} (h : 4 ≤ k) : g4 (l.take k) = g4 l := by
  have e : ∀ i, i < 4 → (l.take k).getD i 0 = l.getD i 0 := fun i hi => by
    rw [List.getD_eq_getElem?_getD, List.getD_eq_getElem?_getD, List.getElem?_take, if_pos (by omega)]
  unfold g4
  rw [e 0 (by omega), e 1 (by omega), e 2 (by omega), e 3 (by omega)]
theorem nums4_take {b : List Int} {k : Nat} : ∀ n, 4 + 4 * n ≤ k → nums4 (b.take k) n = nums4 b n
  | 0, _ => rfl
  | n + 1, h => by
    rw [nums4_succ, nums4_succ, nums4_take n (by omega), List.drop_take, g4_take (by omega)]
theorem pf_take {b l : List Int} {m k : Nat} (h : pf b = some (l, m)) (hk : m ≤ k) : pf (b.take k) = some (l, m) := by
  obtain ⟨h8, hm, hm2, hl⟩ := pf_some h
  unfold pf at h ⊢
  have hlen : (b.take k).length = min k b.length := List.length_take
  by_cases c1 : b.length < 4
  · rw [if_pos c1] at h; exact absurd h (by simp)
  rw [if_neg c1] at h
  rw [if_neg (by omega), g4_take (by omega)]
  by_cases c2 : g4 b > 4000
  · rw [if_pos c2] at h; exact absurd h (by simp)
  rw [if_neg c2] at h ⊢
  by_cases c3 : b.length < 8 + 4 * (g4 b).toNat
  · rw [if_pos c3] at h; exact absurd h (by simp)
  rw [if_neg c3] at h
  rw [if_neg (by omega), List.drop_take, g4_take (by omega), List.take_take, Nat.min_eq_left (by omega), nums4_take _ (by omega)]
  exact h
theorem ra_take : ∀ (k : Nat) (b : List Int) (q : Nat), (ra k b).2 ≤ q → (ra k (b.take q)).1 = (ra k b).1 ∨ (ra k b).2 < q
  | 0, b, q, h => .inl rfl
  | k + 1, b, q, h => by
    rcases Nat.lt_or_ge (ra (k + 1) b).2 q with c | c
    · exact .inr c
    · left
      cases hp : pf b with
      | none =>
        rw [ra_none hp] at c ⊢
        have hq : q = 0 := by simp at c; omega
        subst hq
        rw [List.take_zero, ra_none (by rfl)]
      | some x =>
        obtain ⟨l, m⟩ := x
        rw [ra_some hp] at c h ⊢
        rw [ra_some (pf_take hp (by omega))]
        simp only at c h ⊢
        have hm := (pf_some hp).2.1
        rw [List.drop_take]
        rcases ra_take k (b.drop m) (q - m) (by omega) with e | e
        · rw [e]
        · omega
theorem ra_self : ∀ (k : Nat) (b : List Int), ra k (b.take (ra k b).2) = ra k b
  | 0, b => rfl
  | k + 1, b => by
    cases hp : pf b with
    | none => rw [ra_none hp, List.take_zero, ra_none (by rfl)]
    | some x =>
      obtain ⟨l, m⟩ := x
      rw [ra_some hp]
      simp only
      rw [ra_some (pf_take hp (by omega)), List.drop_take, show m + (ra k (b.drop m)).2 - m = (ra k (b.drop m)).2 by omega, ra_self k (b.drop m)]
theorem rec_self (b : List Int) : rec (b.take (rec b).2) = rec b := by
  have h := (ra_le (b.length + 1) b).1
  have e := ra_self (b.length + 1) b
  unfold rec
  rw [ra_more ((b.take (ra (b.length + 1) b).2).length + 1) (b.length + 1) (b.take (ra (b.length + 1) b).2) (by omega) (by rw [List.length_take]; omega)]
  exact e
theorem ra_small : ∀ (k : Nat) (b : List Int), ∀ x ∈ (ra k b).1, x.length ≤ b.length
  | 0, b, x, h => by simp [ra] at h
  | k + 1, b, x, h => by
    cases hp : pf b with
    | none => rw [ra_none hp] at h; exact absurd h (by simp)
    | some y =>
      obtain ⟨l, m⟩ := y
      obtain ⟨h8, hm, hm2, hl⟩ := pf_some hp
      rw [ra_some hp] at h
      rcases List.mem_cons.1 h with rfl | h
      · rw [hl, nums4_len]; omega
      · have := ra_small k (b.drop m) x h
        rw [List.length_drop] at this
        omega
theorem sync_a {b : List Int} {s : Int} (hbl : b.length ≤ 1048576) (h0 : 0 ≤ s) (h1 : s ≤ b.length) : tape_Sync.f b s = some (b, (b.length : Int), 0) := by
  unfold tape_Sync.f
  rw [open_is h0 h1 hbl, Option.bind_some]
  simp
theorem crash_a {b : List Int} {keep : Int} (hbl : b.length ≤ 1048576) (hk : 0 ≤ keep) : tape_Crash.f b (b.length : Int) keep = some (b, (b.length : Int), 0) := by
  unfold tape_Crash.f
  have hm : mn keep (wrap64 ((b.length : Int) - (b.length : Int))) = 0 := by
    rw [show (b.length : Int) - (b.length : Int) = 0 by omega, w64 (by omega) (by omega), mn_eq]; omega
  rw [open_is (by omega) (by omega) hbl, Option.bind_some]
  simp only [if_true, hm]
  rw [if_neg (by omega), show (b.length : Int) + 0 = (b.length : Int) by omega, w64 (by omega) (by omega), if_pos (by omega), if_pos (by omega), Int.toNat_natCast, List.take_length]
theorem some_is {l : List Int} (hw : ∀ y ∈ l, (Lit.int .u8 y).wf = true) : ∃ J, foretellkeep_some.f l 40 = some J ∧ bytes J ∧ J.length ≤ 40 := by
  refine ⟨l.take (mn (l.length : Int) 40).toNat, ?_, fun x hx => ?_, by rw [List.length_take, mn_eq]; omega⟩
  · unfold foretellkeep_some.f
    have hm := mn_eq (l.length : Int) 40
    rw [if_pos (by omega), if_pos (by omega), if_pos (by simp only [List.length_nil, List.length_take]; omega)]
    rfl
  · have h := hw x (List.mem_of_mem_take hx)
    have h2 := bounds_u8 h
    exact h2
theorem TapeAgain : P.foretellkeep_TapeAgain.Pur := by
  intro l junk a2 ⟨hl, hw⟩ ⟨hjl, hj⟩ ha2
  have ht := taped_is hw
  have hok := rcds_ok l 10
  have hlen := rcds_len l 10
  have hss := rcds_small l 10
  have hes := encs_small (rcds l 10) (rcds_small l 10)
  generalize rcds l 10 = rs at *
  obtain ⟨J, hJ, hJb, hJl⟩ := some_is hj
  have hbb := bytes_append (encs_bytes rs) hJb
  have hbl : (encs_ rs ++ J).length ≤ 1048576 := by rw [List.length_append]; omega
  have hrec := rec_encs rs J hok
  have hself := rec_self (encs_ rs ++ J)
  have hle := (ra_le ((encs_ rs ++ J).length + 1) (encs_ rs ++ J)).1
  have hsm := ra_small ((encs_ rs ++ J).length + 1) (encs_ rs ++ J)
  have hr8 := (ra_le ((encs_ rs ++ J).length + 1) (encs_ rs ++ J)).2
  change (rec (encs_ rs ++ J)).2 ≤ _ at hle
  change ∀ x ∈ (rec (encs_ rs ++ J)).1, _ at hsm
  change 8 * (rec (encs_ rs ++ J)).1.length ≤ (rec (encs_ rs ++ J)).2 at hr8
  generalize hb : encs_ rs ++ J = b at *
  generalize hn : (rec b).2 = n at *
  have hal : (b.take n).length = n := by rw [List.length_take]; omega
  have hp0 := pk_lo a2 (m := 50) (by decide)
  refine Ev.rounds ?_
  unfold foretellkeep_TapeAgain.f
  refine Ev.bind ht ?_
  simp only
  rw [hJ]
  refine Ev.bind (Ev.now _) ?_
  simp only [hb]
  simp only [if_pos (show (encs_ rs).length + J.length < 140737488355328 by rw [← List.length_append, hb]; omega)]
  refine Ev.bind (repair_is hbb hbl (by omega) (by omega)) ?_
  simp only [hn]
  rw [show min (0 : Int) (n : Int) = 0 by omega]
  refine Ev.bind (repair_is (bytes_take hbb n) (by omega) (by omega) (by omega)) ?_
  simp only [hself, hn]
  refine Ev.bind (read_is (bytes_take hbb n) (by omega) (by omega) (by omega)) ?_
  simp only [hself, hn]
  have hr1 : (rec b).1 = rs ++ (rec J).1 := by rw [hrec]
  have hlr : (rec b).1.length = rs.length + (rec J).1.length := by rw [hr1, List.length_append]
  have htk : ((rec b).1.take ((rs.length : Int)).toNat) = rs := by rw [hr1, Int.toNat_natCast, List.take_left' rfl]
  have htt : (b.take n).take n = b.take n := by rw [List.take_take, Nat.min_self]
  refine Ev.step (f := fun k => (foretellkeep_sameLists.f k rs rs).bind fun t => (if t = true then (if (rs.length : Int) = 0 then (some true) else (some (decide ((n : Int) ≥ 8)))) else (some false))) (fun k => ?_) ?_
  · simp only [foretellkeep_TapeAgain.j0]
    rw [sync_a (by omega) (by omega) (by omega), Option.bind_some, picked_is ha2 (by decide), Option.bind_some]
    simp only
    rw [crash_a (by omega) hp0, Option.bind_some]
    simp only [if_true, hal, htk, htt]
    rw [if_pos (by omega), if_pos (by omega), if_pos (by omega)]
  · refine Ev.bind (sameLists_is (by omega) (fun x hx => by have := hss x hx; omega)) ?_
    simp only [if_true]
    by_cases c : (rs.length : Int) = 0
    · simp only [if_pos c]
      exact Ev.now _
    · simp only [if_neg c]
      refine ev_some (decide_eq_true ?_)
      omega
end Go.Proofs.Ytaologjglealoaa.Q
