/- Functions by content: lists and names drawn. -/
import Derived.Test.YtmmnkndmlkhmhaaGreatDoorFHI
import Derived.Test.YtmmnkndmlkhmhaaGreatDoorFD
namespace Go.Proofs.YtmmnkndmlkhmhaaGreatDoor
open Go.RowKit Pl
set_option linter.unusedVariables false
set_option linter.unusedSimpArgs false
attribute [local irreducible] CondB CallP LoopW AnsP LeP

/-- A drawn list of at most k entries. -/
def Small9 (l : List Lf) : Prop := ∀ x ∈ l, (x.1.length : Int) ≤ 9 ∧ (x.2.length : Int) ≤ 9
theorem Small9.fit {l : List Lf} (h : Small9 l) : Fit l := fun i => by
  unfold lfAt
  rcases Nat.lt_or_ge i l.length with hl | hl
  · have := h l[i] (List.getElem_mem hl)
    simp only [List.getD, List.getElem?_eq_getElem hl, Option.getD_some]
    omega
  · simp [List.getD, List.getElem?_eq_none hl]
theorem Small9.put {l : List Lf} {n v : Bs} (h : Small9 l) (hn : (n.length : Int) ≤ 9) (hv : (v.length : Int) ≤ 9) : Small9 (putL l n v) := by
  intro x hx
  simp only [putL, lowL, highL, without, List.mem_append, List.mem_filter, List.mem_singleton] at hx
  rcases hx with (hx | hx) | hx
  · exact h x hx.1.1
  · subst hx; exact ⟨hn, hv⟩
  · exact h x hx.1.1
theorem putL_len (l : List Lf) (n v : Bs) : (putL l n v).length ≤ l.length + 1 := by
  have key : ∀ (r : List Lf), (lowL r n).length + (highL r n).length ≤ r.length := by
    intro r
    induction r with
    | nil => simp [lowL, highL]
    | cons x r ih =>
      simp only [lowL, highL, List.filter_cons] at ih ⊢
      cases h1 : ltB x.1 n <;> by_cases h2 : x.1 = n <;> simp_all <;> omega
  have h1 := key (without l n)
  have h2 : (without l n).length ≤ l.length := List.length_filter_le _ _
  simp only [putL, List.length_append, List.length_singleton]
  omega
theorem putR_len {l : List Lf} {n v : Bs} : (putR l n v).1.length ≤ l.length + 1 := by
  unfold putR
  have := putL_len l n v
  cases leavesOk l && leavesOk (putL l n v) <;> simp <;> omega
theorem putR_ok {l : List Lf} {n v : Bs} (h : leavesOk l = true) : leavesOk (putR l n v).1 = true := by
  unfold putR
  rw [h, Bool.true_and]
  cases h2 : leavesOk (putL l n v) <;> simp [h, h2]
theorem putR_small {l : List Lf} {n v : Bs} (h : Small9 l) (hn : (n.length : Int) ≤ 9) (hv : (v.length : Int) ≤ 9) : Small9 (putR l n v).1 := by
  unfold putR
  cases leavesOk l && leavesOk (putL l n v)
  · exact h
  · exact h.put hn hv
/-- How a list is drawn: a new bound each round. -/
inductive DR (c : Bs) : Nat → List Lf → Nat → Int → List Lf → Nat → Int → Prop
  | stop {k l i h x i' h'} : i' ≤ c.length → x ≤ k → CT Tryz.prog 62 [curE c i h] [.ptr 1 0 0, .int .i64 9] (.int .i64 ((x : Nat) : Int)) [curE c i' h'] → DR c k l i h l i' h'
  | step {k l i h x i1 h1 s i2 h2 v i3 h3 l' i' h'} : x < 9 → k < x → i1 ≤ c.length → CT Tryz.prog 62 [curE c i h] [.ptr 1 0 0, .int .i64 9] (.int .i64 ((x : Nat) : Int)) [curE c i1 h1] →
      (nameOk s = true ∧ s.length ≤ 9) → i2 ≤ c.length → CT Tryz.prog 113 [curE c i1 h1] [.ptr 1 0 0] (.str s) [curE c i2 h2] →
      (valueOk v = true ∧ v.length ≤ 9) → i3 ≤ c.length → CT Tryz.prog 169 [curE c i2 h2] [.ptr 1 0 0] (.str v) [curE c i3 h3] →
      DR c (k + 1) (putR l s v).1 i3 h3 l' i' h' → DR c k l i h l' i' h'
theorem dr_all (c : Bs) (hc : (c.length : Int) ≤ 1048576) : ∀ (f k : Nat) (l : List Lf) (i : Nat) (h : Int), k + f = 9 → i ≤ c.length → leavesOk l = true → Small9 l → l.length ≤ k →
    ∃ l' i' h', DR c k l i h l' i' h' ∧ (leavesOk l' = true ∧ Small9 l' ∧ l'.length ≤ 9) ∧ i' ≤ c.length
  | f, k, l, i, h, hf, hi, ho, hs, hl => by
    obtain ⟨x, i1, h1, hx, hi1, cb⟩ := c_l01Below c i h 9 hc hi (by omega)
    by_cases hk : k < x
    · obtain ⟨s, i2, h2, hs2, hi2, cn⟩ := c_l04Name c i1 h1 hc hi1
      obtain ⟨v, i3, h3, hv, hi3, cv⟩ := c_l09Value c i2 h2 hc hi2
      cases f with
      | zero => omega
      | succ f =>
        have := putR_len (l := l) (n := s) (v := v)
        obtain ⟨l', i', h', hd, hr, hi'⟩ := dr_all c hc f (k + 1) (putR l s v).1 i3 h3 (by omega) hi3 (putR_ok ho) (putR_small hs (by omega) (by omega)) (by omega)
        exact ⟨l', i', h', .step hx hk hi1 cb hs2 hi2 cn hv hi3 cv hd, hr, hi'⟩
    · exact ⟨l, i1, h1, .stop hi1 (by omega) cb, ⟨ho, hs, by omega⟩, hi1⟩
set_option maxRecDepth 100000 in
set_option maxHeartbeats 1000000 in
theorem c_l09Draw (c : Bs) (i : Nat) (h : Int) (hc : (c.length : Int) ≤ 1048576) (hi : i ≤ c.length) : ∃ (l : List Lf) (i' : Nat) (h' : Int), (leavesOk l = true ∧ Small9 l ∧ l.length ≤ 9) ∧ i' ≤ c.length ∧ CT Tryz.prog 58 [curE c i h] [.ptr 1 0 0] (.ref 2) [curE c i' h', .row 2 (lvE l)] := by
  obtain ⟨L, i', h', hd, hr, hi'⟩ := dr_all c hc 9 0 [] i h rfl hi (by rfl) (fun x hx => by cases hx) (by simp)
  refine ⟨L, i', h', hr, hi', ct_intro tt_ok 2 rfl Tryz.func58 rfl rfl rfl ?_⟩
  repeat ((try conv => whnf); first | (refine stpQ ?_))
  refine loop_of (Nat × List Lf × Nat × Int) (fun ⟨k, l, i, h⟩ => ⟨[(0, .ptr 1 0 0), (3, .ref 2), (4, .int .i64 (k : Int))], [(1, some (curE c i h)), (2, some (.row 2 (lvE l)))], 3⟩) (fun ⟨k, l, i, h⟩ => DR c k l i h L i' h' ∧ k ≤ 9 ∧ l.length ≤ k ∧ Small9 l) (fun ⟨k, l, i, h⟩ => 9 - k) (0, [], i, h) ⟨hd, by omega, by simp, fun x hx => by cases hx⟩ ?_ ?_
  · (refine le_auto (by rfl) ?_ ?_) <;> (repeat' (first | (exact eqA) | (refine And.intro ?_ ?_) | ((fail_if_success (with_reducible (show _ = _))); (show _ = _)))) <;> first | rfl | decide
  · rintro ⟨k, l, i, h⟩ ⟨hd, hk, hl, hs⟩
    have hll := lv_len l
    cases hd with
    | stop hi1 hx cb =>
      repeat ((try conv => whnf); first | (refine ccB ([1]) (cb) ?_) | (refine stpQ ?_))
      (refine ans_auto (by rfl) ?_ ?_ (by rfl)) <;> (repeat' (first | (exact eqA) | (refine And.intro ?_ ?_) | ((fail_if_success (with_reducible (show _ = _))); (show _ = _))))
    | @step _ _ _ _ x i1 h1 s i2 h2 v i3 h3 _ _ _ hx hkx hi1 cb hs2 hi2 cn hv hi3 cv hd' =>
      have hpl := putR_len (l := l) (n := s) (v := v)
      have hsp := putR_small hs (n := s) (v := v) (by omega) (by omega)
      have cp := c_sLeafPut l s v (by omega) hs.fit (hs.put (by omega) (by omega)).fit
      repeat ((try conv => whnf); first | (refine ccB ([1]) (cb) ?_) | (refine ccB ([1]) (cn) ?_) | (refine ccB ([1]) (cv) ?_) | (refine c_callG ([2]) ([]) (cp) (by ((repeat' (first | (exact trivial) | (exact rfl) | (decide) | (refine And.intro ?_ ?_))); first | done | fail)) (by ((repeat' (first | (exact trivial) | (exact rfl) | (decide) | (refine And.intro ?_ ?_))); first | done | fail)) (by decide) (by rfl) (by first | exact .inl rfl | (refine .inr ⟨?_, ?_⟩ <;> simp [own2, own1, own0, ownE])) ?_) | (refine stpQ ?_))
      refine ⟨(k + 1, (putR l s v).1, i3, h3), ⟨hd', by omega, by omega, hsp⟩, (by show 9 - (k + 1) < 9 - k; omega), ?_⟩
      (refine le_auto (by rfl) ?_ ?_) <;> (repeat' (first | (exact eqA) | (refine And.intro ?_ ?_) | ((fail_if_success (with_reducible (show _ = _))); (show _ = _))))
set_option maxRecDepth 100000 in
set_option maxHeartbeats 1000000 in
theorem c_DrawLeaves (c : Bs) (hc : (c.length : Int) ≤ 1048576) : ∃ (l : List Lf), (leavesOk l = true ∧ Small9 l ∧ l.length ≤ 9) ∧ CT Tryz.prog 12 [] [.sl 1 (bytesE c)] (.ref 1) [.row 2 (lvE l)] := by
  obtain ⟨h, c1⟩ := c_l01New c hc
  obtain ⟨l, i', h', hl, _, c2⟩ := c_l09Draw c 0 h hc (by omega)
  refine ⟨l, hl, ct_intro tt_ok 1 rfl Tryz.func12 rfl rfl rfl ?_⟩
  repeat ((try conv => whnf); first | (refine ccA ([]) (c1) ?_) | (refine ccB ([_]) (c2) ?_) | (refine stpQ ?_))
  (refine ans_auto (by rfl) ?_ ?_ (by rfl)) <;> (repeat' (first | (exact eqA) | (refine And.intro ?_ ?_) | ((fail_if_success (with_reducible (show _ = _))); (show _ = _)))) <;> first | rfl | decide
set_option maxRecDepth 100000 in
set_option maxHeartbeats 1000000 in
theorem c_DrawName (c : Bs) (hc : (c.length : Int) ≤ 1048576) : ∃ (s : Bs), (nameOk s = true ∧ s.length ≤ 9) ∧ CT Tryz.prog 29 [] [.sl 1 (bytesE c)] (.str s) [] := by
  obtain ⟨h, c1⟩ := c_l01New c hc
  obtain ⟨s, i', h', hl, _, c2⟩ := c_l04Name c 0 h hc (by omega)
  refine ⟨s, hl, ct_intro tt_ok 1 rfl Tryz.func29 rfl rfl rfl ?_⟩
  repeat ((try conv => whnf); first | (refine ccA ([]) (c1) ?_) | (refine ccB ([_]) (c2) ?_) | (refine stpQ ?_))
  (refine ans_auto (by rfl) ?_ ?_ (by rfl)) <;> (repeat' (first | (exact eqA) | (refine And.intro ?_ ?_) | ((fail_if_success (with_reducible (show _ = _))); (show _ = _)))) <;> first | rfl | decide
end Go.Proofs.YtmmnkndmlkhmhaaGreatDoor
